/- Part of a proof about given Go functions: contracts of functions, or plain laws. -/
import Derived.Test.YtlhddgkbbdfacaaDoorS2
import Derived.Laws.MakeOwn
import Derived.ProofKit
import Derived.OpenShut
import Derived.ShutString
import Derived.ChangeOld
import Derived.SizedLaws
import Derived.StillTail
import Derived.WalkSpells
import Derived.Deep.Slices
/- Own words for walks: literals, make, copy. -/
set_option linter.unusedVariables false
set_option linter.unusedSimpArgs false
namespace Go.Sx
open Go.RowKit Go.Lib

/-! ### Literals -/
def evps (ss : List (Nat × Value)) : List (Nat × Operand) → Option (List (Nat × Value))
  | [] => some []
  | (i, x) :: r => match evO ss x, evps ss r with
    | some v, some vs => some ((i, v) :: vs)
    | _, _ => none
theorem evps_map {n : Nat} {ss : List (Nat × Value)} {a : Act} (F : Fr n ss a) : ∀ {r : List (Nat × Operand)} {vs : List (Nat × Value)}, evps ss r = some vs → r.map (fun p => (p.1, a.eval p.2)) = vs
  | [], vs, h => by simpa [evps] using h
  | (i, x) :: r, vs, h => by
    simp only [evps] at h
    split at h
    · rename_i v us h1 h2
      have e : (i, v) :: us = vs := by simpa using h
      rw [← e, List.map_cons, F.ev h1, evps_map F h2]
    · simp at h

/-- A part laid over cells. -/
def lay (place : Nat → Option (Nat × Nat)) (cs : List Value) : List (Nat × Value) → Option (List Value)
  | [] => some cs
  | (i, v) :: rest =>
    match place i with
    | none => none
    | some (off, size) => if v.cells.toList.length ≠ size ∨ cs.length < off + size then none else lay place (spl cs off v.cells.toList) rest

theorem foldl_set (off : Nat) : ∀ (vs : List Value) (k : Nat) (cs : Array Value), off + k + vs.length ≤ cs.size →
    ((vs.zipIdx k).foldl (fun (cs : Array Value) (p : Value × Nat) => cs.setIfInBounds (off + p.2) p.1) cs).toList = cs.toList.take (off + k) ++ vs ++ cs.toList.drop (off + k + vs.length)
  | [], k, cs, _ => by simp
  | v :: r, k, cs, h => by
    rw [List.zipIdx_cons, List.foldl_cons]
    have h' : off + (k + 1) + r.length ≤ (cs.setIfInBounds (off + k) v).size := by simp at h ⊢; omega
    rw [foldl_set off r (k + 1) _ h']
    have e := list_seg_step cs.toList (off + k) v r (by simp at h ⊢; omega)
    simpa [Array.toList_setIfInBounds, Nat.add_assoc] using e

theorem fill_lay (place : Nat → Option (Nat × Nat)) : ∀ (vs : List (Nat × Value)) (cs : Array Value) (ds : List Value), lay place cs.toList vs = some ds → Instr.fill place cs vs = some ds.toArray
  | [], cs, ds, h => by
    simp only [lay, Option.some.injEq] at h
    simp [Instr.fill, ← h]
  | (i, v) :: rest, cs, ds, h => by
    simp only [lay] at h
    simp only [Instr.fill]
    split at h
    · simp at h
    · rename_i off size hp
      split at h
      · simp at h
      · rename_i hc
        have h1 : v.cells.size = size := by
          have := fun e => hc (.inl e)
          simpa using this
        have h2 : off + size ≤ cs.size := by
          have := fun e => hc (.inr e)
          simp at this
          omega
        rw [hp]
        simp only
        have hn : (decide (v.cells.size ≠ size) || decide (off + v.cells.size > cs.size)) = false := by simp [h1]; omega
        rw [if_neg (by simp only [hn]; simp)]
        refine fill_lay place rest _ ds ?_
        rw [← h]
        congr 1
        have e := foldl_set off v.cells.toList 0 cs (by simp [h1]; omega)
        have e2 : (Array.foldl (fun cs (x : Value × Nat) => cs.setIfInBounds (off + x.2) x.1) cs v.cells.zipIdx) = (v.cells.toList.zipIdx 0).foldl (fun (cs : Array Value) (p : Value × Nat) => cs.setIfInBounds (off + p.2) p.1) cs := by
          rw [← Array.foldl_toList]
          simp
        rw [e2, e]
        simp [spl]

/-- Where the parts of a struct or an array lie. -/
def placesB (P : Program) (t : TypeId) : Option (List (Nat × Nat)) :=
  match P.underlying t with
  | some (.struct fs) => fs.toList.mapM fun f => (sizeB P f.type).map fun z => (f.offset, z)
  | _ => none

section
variable {P : Program} {n : Nat} {S : List Nat} {w0 : World} {ss : List (Nat × Value)} {l : List It} {o : Oper}
variable {ops : Array Oper} {Q : Exit → Act → World → Prop} {rest : List Oper} {a : Act} {w : World}

theorem mapM_run {α β : Type} (f : α → Sem β) (g : α → Option β) : ∀ (xs : List α) (ys : List β), (∀ x y, g x = some y → (f x).run P w = .ok y w) → xs.mapM g = some ys → (xs.mapM f).run P w = .ok ys w
  | [], ys, _, h => by simp at h; subst h; simp
  | x :: xs, ys, hf, h => by
    rw [List.mapM_cons] at h
    cases hx : g x with
    | none => simp [hx] at h
    | some y =>
      cases hr : xs.mapM g with
      | none => simp [hx, hr] at h
      | some zs =>
        simp [hx, hr] at h
        subst h
        rw [List.mapM_cons]
        simp [hf x y hx, mapM_run f g xs zs hf hr]

theorem y_build {t : TypeId} {parts : List (Nat × Operand)} {vs : List (Nat × Value)} {zs cs : List Value} {pl : List (Nat × Nat)} (ho : o.op = .build t parts.toArray) (hz : zeroL P t = some zs) (hp : placesB P t = some pl) (ha : evps ss parts = some vs) (hc : lay (fun i => pl[i]?) zs vs = some cs) : Yld P n S w0 ss l o (.agg cs.toArray) := by
  intro a w F _
  have h1 := evps_map F ha
  obtain ⟨z, hz1, hz2⟩ := run_zero (w := w) hz
  unfold placesB at hp
  split at hp
  · rename_i fs ht
    have h2 : (fs.toList.mapM fun f => (do pure (f.offset, ← sizeOf f.type) : Sem (Nat × Nat))).run P w = .ok pl w := by
      refine mapM_run _ _ _ _ (fun f y hy => ?_) hp
      cases hs : sizeB P f.type with
      | none => simp [hs] at hy
      | some z =>
        have : (f.offset, z) = y := by simpa [hs] using hy
        subst this
        simp [run_sizeOf' hs]
    have h3 : (fs.mapM fun f => (do pure (f.offset, ← sizeOf f.type) : Sem (Nat × Nat))).run P w = .ok pl.toArray w := by
      rw [Array.mapM_eq_mapM_toList]
      simp only [Sem.run_map, h2, Result.andThen_ok]
    simp only [bind_pure_comp] at h3
    have h4 := fill_lay (fun i => pl[i]?) vs z.cells cs (by rw [hz2]; exact hc)
    have h5 : (fun i : Nat => pl.toArray[i]?) = fun i : Nat => pl[i]? := by funext i; simp
    simp [execOp, ho, Instr.build, hz1, run_underlying ht, h3, List.map_toArray, h1, h5, h4]
  · simp at hp

theorem y_buildA {t e : TypeId} {len z : Nat} {parts : List (Nat × Operand)} {vs : List (Nat × Value)} {zs cs : List Value} (ho : o.op = .build t parts.toArray) (hz : zeroL P t = some zs) (ht : P.underlying t = some (.array len e)) (he : sizeB P e = some z) (ha : evps ss parts = some vs) (hc : lay (fun i => some (i * z, z)) zs vs = some cs) : Yld P n S w0 ss l o (.agg cs.toArray) := by
  intro a w F _
  have h1 := evps_map F ha
  obtain ⟨zz, hz1, hz2⟩ := run_zero (w := w) hz
  have h4 := fill_lay (fun i => some (i * z, z)) vs zz.cells cs (by rw [hz2]; exact hc)
  simp [execOp, ho, Instr.build, hz1, run_underlying ht, run_sizeOf' he, List.map_toArray, h1, h4]

/-- A slice literal, or the list of a variadic call: a block of its own. -/
theorem st_buildSlice {t e : TypeId} {len z d : Nat} {parts : List (Nat × Operand)} {vs : List (Nat × Value)} {zs cs : List Value} (ho : o.op = .buildSlice t len parts.toArray) (ht : P.underlying t = some (.slice e)) (hz : sizeB P e = some z) (hzs : zeroL P e = some zs) (hlz : zs.length = z) (hsm : Nat.ble (len * z) 16777216 = true)
    (ha : evps ss parts = some vs) (hc : lay (fun i => some (i * z, z)) ((List.range (len * z)).map (fun i => zs.getD (i % z) undef)) vs = some cs) (hw : wantB ops ss o = some true) (hd : o.dst = some d) (hn : Nat.ble (d + 1) n = true) (H : St n S w0 ss l a w)
    (K : ∀ b a' w', St n S w0 ((d, .slice (some ⟨b, 0, none⟩) len len) :: ss) (It.blk b e cs :: l) a' w' → wpList P ops Q rest a' w') : wpList P ops Q (o :: rest) a w := by
  have h1 := evps_map H.fr ha
  obtain ⟨zz, hz1, hz2⟩ := run_zero (w := w) hzs
  have hsm' : ¬ (16777216 < len * z) := by have := Nat.le_of_ble_eq_true hsm; omega
  have hzz : zz.cells.size = z := by rw [← hlz, ← hz2]; simp
  have h4 : ∀ c : Array Value, c.toList = (List.range (len * z)).map (fun i => zs.getD (i % z) undef) → Instr.fill (fun i => some (i * z, z)) c vs = some cs.toArray := fun c hcc => fill_lay _ vs c cs (by rw [hcc]; exact hc)
  have hr : (execOp a.eval o).run P w = .ok (.value (.slice (some ⟨w.heap.size, 0, none⟩) len len)) (w.alloc (.cells cs.toArray e)) := by
    rcases Nat.eq_zero_or_pos (len * z) with h0 | h0
    · have h5 := h4 #[] (by simp [h0])
      have h6 : ∀ f : Nat → Value, (Array.range 0).map f = #[] := fun f => by simp
      simp [execOp, ho, Instr.buildSlice, run_underlying ht, run_sizeOf' hz, h0, List.map_toArray, h1, h6, h5, newRow, newObj, Sem.run]
    · have h0' : ¬ (len * z = 0) := by omega
      have h5 := h4 ((Array.range (len * z)).map (zz.cells[· % zz.cells.size]!)) (by
        simp only [Array.toList_map, Array.toList_range]
        refine List.map_congr_left fun i _ => ?_
        have hlt : i % z < zz.cells.size := by rw [hzz]; exact Nat.mod_lt _ (Nat.pos_of_mul_pos_left h0 |> fun _ => by rcases Nat.eq_zero_or_pos z with hz0 | hz0; subst hz0; simp at h0; exact hz0)
        rw [hzz, ← hz2]
        simp [hlt])
      simp [execOp, ho, Instr.buildSlice, run_underlying ht, run_sizeOf' hz, hsm', h0', hz1, List.map_toArray, h1, h5, newRow, newObj, Sem.run]
  refine does hw hd hn H hr (H.sep.alloc _) (fun a' H' => K w.heap.size a' _ H')

theorem lay_one : ∀ (vs : List Value) (k : Nat) (pre : List Value), pre.length = k → vs.all (·.oneCell') = true → ∀ (zs : List Value), zs.length = vs.length →
    lay (fun i => some (i * 1, 1)) (pre ++ zs) ((List.range' k vs.length).zip vs) = some (pre ++ vs)
  | [], k, pre, hk, _, zs, hz => by simp at hz; subst hz; simp [lay]
  | v :: vs, k, pre, hk, h1, zs, hz => by
    match zs, hz with
    | z :: zs, hz =>
      simp only [List.all_cons, Bool.and_eq_true] at h1
      have hv : v.cells.toList = [v] := by cases v <;> first | rfl | simp [Value.oneCell'] at h1
      simp only [List.length_cons, List.range'_succ, List.zip_cons_cons, lay, hv]
      rw [if_neg (by simp; omega), Nat.mul_one, spl_one _ _ _ (by simp; omega)]
      have e : (pre ++ z :: zs).set k v = (pre ++ [v]) ++ zs := by rw [List.set_append_right _ _ (by omega)]; simp [hk]
      rw [e, lay_one vs (k + 1) (pre ++ [v]) (by simp [hk]) h1.2 zs (by simpa using hz)]
      simp
theorem evps_evs {ss : List (Nat × Value)} : ∀ {ks : List Nat} {xs : List Operand} {vs : List Value}, ks.length = xs.length → evs ss xs = some vs → evps ss (ks.zip xs) = some (ks.zip vs)
  | [], [], vs, _, h => by simp [evs] at h; subst h; simp [evps]
  | k :: ks, x :: xs, vs, hl, h => by
    simp only [evs] at h
    split at h
    · rename_i v us h1 h2
      have e : v :: us = vs := by simpa using h
      subst e
      simp only [List.zip_cons_cons, evps, h1, evps_evs (by simpa using hl) h2]
    · simp at h
  | [], _ :: _, _, hl, _ => by simp at hl
  | _ :: _, [], _, hl, _ => by simp at hl
/-- A list of values of one cell each. -/
theorem st_buildSlice1 {t e : TypeId} {len d : Nat} {parts : List (Nat × Operand)} {xs : List Operand} {vs : List Value} {z0 : Value} (ho : o.op = .buildSlice t len parts.toArray) (ht : P.underlying t = some (.slice e)) (hz : sizeB P e = some 1) (hzs : zeroL P e = some [z0]) (hsm : Nat.ble (len * 1) 16777216 = true)
    (hp : parts = (List.range' 0 len).zip xs) (ha : evs ss xs = some vs) (hl : vs.length = len) (hlx : xs.length = len) (h1 : vs.all (·.oneCell') = true) (hw : wantB ops ss o = some true) (hd : o.dst = some d) (hn : Nat.ble (d + 1) n = true) (H : St n S w0 ss l a w)
    (K : ∀ b a' w', St n S w0 ((d, .slice (some ⟨b, 0, none⟩) len len) :: ss) (It.blk b e vs :: l) a' w' → wpList P ops Q rest a' w') : wpList P ops Q (o :: rest) a w := by
  have ha' : evps ss parts = some ((List.range' 0 len).zip vs) := by rw [hp]; exact evps_evs (by simp [hlx]) ha
  refine st_buildSlice ho ht hz hzs rfl hsm ha' ?_ hw hd hn H K
  have h := lay_one vs 0 [] rfl h1 ((List.range (len * 1)).map (fun i => [z0].getD (i % 1) undef)) (by simp [hl])
  simp only [List.nil_append, hl] at h
  exact h

/-- make([]T, n): a row of its own. -/
theorem st_make {t e : TypeId} {x y : Operand} {k k' : IntKind} {z bytes m d : Nat} {v : Value} (ho : o.op = .makeSlice t x y) (ht : sliceB P t = some (e, z, bytes)) (hx : evO ss x = some (.int k (m : Int))) (hy : evO ss y = some (.int k' (m : Int))) (hm : m ≤ maxLen) (hb : bytes * m ≤ 281474976710656)
    (hzs : (P.info? e).bind (·.zero) = some v) (hw : wantB ops ss o = some true) (hd : o.dst = some d) (hn : Nat.ble (d + 1) n = true) (H : St n S w0 ss l a w)
    (K : ∀ b a' w', St n S w0 ((d, .slice (some ⟨b, 0, none⟩) m m) :: ss) (It.blk b e (madeCells v.cells (m * z)).toList :: l) a' w' → wpList P ops Q rest a' w') : wpList P ops Q (o :: rest) a w := by
  unfold sliceB at ht
  split at ht
  · rename_i e1 ht1
    split at ht
    · rename_i i hi
      split at ht
      · rename_i zv hz
        split at ht
        · rename_i hzz
          simp only [Option.some.injEq, Prod.mk.injEq] at ht
          obtain ⟨rfl, hs, hbb⟩ := ht
          subst hs hbb
          have hv : zv = v := by simpa [hi, hz] using hzs
          subst hv
          have e2 : ((i.bytes * m : Nat) : Int) = (i.bytes : Int) * (m : Int) := Int.natCast_mul _ _
          have hbI : (i.bytes : Int) * (m : Int) ≤ 281474976710656 := by rw [← e2]; omega
          have hr := run_make (P := P) w t e1 i zv ht1 hi hz k k' (m : Int) (m : Int) (by omega) (Int.le_refl _) hbI (by unfold maxLen at hm; omega)
          simp only [Int.toNat_natCast] at hr
          refine does (v := .slice (some ⟨w.heap.size, 0, none⟩) m m) (w' := w.alloc (.cells (madeCells zv.cells (m * i.size)) e1)) hw hd hn H ?_ (H.sep.alloc _) (fun a' H' => K w.heap.size a' _ ?_)
          · simp [execOp, ho, H.fr.ev hx, H.fr.ev hy, hr]
          · have e : It.blk w.heap.size e1 (madeCells zv.cells (m * i.size)).toList = It.obj w.heap.size (.cells (madeCells zv.cells (m * i.size)) e1) := by unfold It.blk; rw [Array.toArray_toList]
            rw [e]
            exact H'
        · simp at ht
      · simp at ht
    · simp at ht
  · simp at ht
end
end Go.Sx

/- Own words for walks: small helps. -/
set_option linter.unusedVariables false
set_option linter.unusedSimpArgs false
namespace Go.Sx
open Go.RowKit

theorem fi {ss : List (Nat × Value)} {t : Nat} {k : IntKind} {x y : Int} (h : find ss t = some (.int k x)) (e : x = y) : find ss t = some (.int k y) := by rw [h, e]
theorem fs {ss : List (Nat × Value)} {t : Nat} {x y : List UInt8} (h : find ss t = some (str x)) (e : x = y) : find ss t = some (str y) := by rw [h, e]
theorem ib {b : Nat} {E : TypeId} {cs ds : List Value} {l : List It} (e : cs = ds) : It.blk b E cs :: l = It.blk b E ds :: l := by rw [e]
theorem ib2 {b : Nat} {E : TypeId} {cs ds : List Value} {l l' : List It} (e : cs = ds) (h : l = l') : It.blk b E cs :: l = It.blk b E ds :: l' := by rw [e, h]
theorem ir {e size : Nat} {v : Value} {n n' : Nat} {xs ys : List Value} {l : List It} (h1 : n = n') (h2 : xs = ys) : It.row e size v n xs :: l = It.row e size v n' ys :: l := by rw [h1, h2]
theorem ir2 {e size : Nat} {v : Value} {n n' : Nat} {xs ys : List Value} {l l' : List It} (h1 : n = n') (h2 : xs = ys) (h : l = l') : It.row e size v n xs :: l = It.row e size v n' ys :: l' := by rw [h1, h2, h]
theorem wu8_nat (x : Nat) : IntKind.u8.wrap (x : Int) = ((UInt8.ofNat x).toNat : Int) := by
  rw [wu8_mod, UInt8.toNat_ofNat']
  omega
theorem wu8_eq {y : Int} {x : Nat} (h : y = (x : Int)) : IntKind.u8.wrap y = ((UInt8.ofNat x).toNat : Int) := by rw [h, wu8_nat]
theorem map_get {α : Type} (f : α → Value) (L : List α) (i : Nat) (d : α) (h : i < L.length) : (L.map f)[i]? = some (f (L.getD i d)) := by
  simp [List.getElem?_eq_getElem h, List.getD_eq_getElem?_getD]

section
variable {S : List Nat} {w0 : World} {l : List It}
/-- The tail of an array in a block. -/
theorem rd_slA {b : Nat} {E : TypeId} {cs ds : List Value} {len q k : Nat} (hm : It.blk b E cs ∈ l) (hlen : cs.length = len) (hk : k = q) (hd : cs.drop q = ds) : ∀ w, Sep S w0 w l → Rd w (if len = k then some ⟨b, 0, none⟩ else (some (⟨b, 0, none⟩ : Addr)).map (·.add (k * 1))) ds := fun w hs => by
  subst hk
  rw [Nat.mul_one]
  have h := Rd.blk (hs.all _ hm) 0 cs.length
  simp only [List.drop_zero, List.take_length] at h
  have h2 := h.drop k (len = k) (fun e => by omega)
  rw [← hd]
  exact h2
end
end Go.Sx
namespace Go.Sx
theorem Sep.addNil {S : List Nat} {w0 w : World} {l : List It} (h : Sep S w0 w l) (e size : Nat) : Sep S w0 w (It.row e size (.slice none 0 0) 0 [] :: l) :=
  h.add (Frm.refl _ _) (Row.nil _ _ _) (by simp [It.row, Value.ownBlock])
/-- An item said anew. -/
theorem Sep.conv {S : List Nat} {w0 w : World} {l l' : List It} {i i' : It} (h : Sep S w0 w l) (u : Upd l i i' l') (hP : i.P w → i'.P w) (hfp : ∀ b ∈ i'.fp, b ∈ i.fp) : Sep S w0 w l' := by
  have hm : i ∈ l := by
    obtain ⟨r, h1, _⟩ := u.perm
    exact h1.symm.subset (by simp)
  exact h.upd u (Frm.refl _ _) (hP (h.all _ hm)) (fun b hb => .inl (hfp b hb))
theorem St.conv {n : Nat} {S : List Nat} {w0 : World} {ss : List (Nat × Value)} {l l' : List It} {a : Act} {w : World} {i i' : It} (h : St n S w0 ss l a w) (u : Upd l i i' l') (hP : i.P w → i'.P w) (hfp : ∀ b ∈ i'.fp, b ∈ i.fp) : St n S w0 ss l' a w := ⟨h.fr, h.sep.conv u hP hfp⟩
/-- A literal slice may grow. -/
theorem St.asRow {n : Nat} {S : List Nat} {w0 : World} {ss : List (Nat × Value)} {l l' : List It} {a : Act} {w : World} {b E size m : Nat} {cs : List Value} (h : St n S w0 ss l a w) (u : Upd l (It.blk b E cs) (It.row E size (.slice (some ⟨b, 0, none⟩) m m) m cs) l') (hl : cs.length = m * size) (hm : m ≤ maxLen) : St n S w0 ss l' a w :=
  h.conv u (fun hp => row_of_blk hp hl hm) (by intro b' hb'; simpa [It.row, It.blk, It.obj, Value.ownBlock] using hb')
theorem St.nilRow {n : Nat} {S : List Nat} {w0 : World} {ss : List (Nat × Value)} {l : List It} {a : Act} {w : World} (h : St n S w0 ss l a w) (e size : Nat) : St n S w0 ss (It.row e size (.slice none 0 0) 0 [] :: l) a w := ⟨h.fr, h.sep.addNil e size⟩
theorem Rd.ofSep {S : List Nat} {w0 w : World} {l : List It} {A : Option Addr} {cs : List Value} (h : ∀ w, Sep S w0 w l → Rd w A cs) (hs : Sep S w0 w l) : Rd w A cs := h w hs
theorem row_shape {S : List Nat} {w0 w : World} {l : List It} {e size n : Nat} {v : Value} {xs : List Value} (hs : Sep S w0 w l) (hm : It.row e size v n xs ∈ l) : ∃ A c, v = .slice A n c ∧ Rd w A xs ∧ n ≤ maxLen := Row.rd (hs.all _ hm)
end Go.Sx

/- Own words: how arguments read. -/
set_option linter.unusedVariables false
set_option linter.unusedSimpArgs false
namespace Go.Sx
open Go.RowKit Go.WideShapes Go.ChangeAt Go.ChangeShapes

section
variable {H : Type} {enc : TypeId × Value → H} {P : Program} {W : World} {base : Nat} {sp : Nat → Bool} {held : Bool}
end
theorem wf_i64 {n : Int} (h : (Lit.int .i64 n).wf = true) : -9223372036854775808 ≤ n ∧ n ≤ 9223372036854775807 := by
  simp [Lit.wf, IntKind.min, IntKind.max, IntKind.bits, IntKind.signed] at h
  omega
/-- What a law's walk comes to. -/
theorem law_below {P : Program} {f : FuncId} {args : Array Value} {W : World} (h : Calls P f args W (Gives (.bool true) [] W)) : Calls P f args W fun e w' => e = .returned (.bool true) ∧ Below W.heap.size W w' :=
  h.mono fun e w' ⟨v, l, he, ⟨hv, _⟩, hs⟩ => ⟨by rw [he, hv], hs.frm.below⟩
end Go.Sx

/- Own words: regions that draw and end in a chain, nil pointers, calls that write what they were given. -/
set_option linter.unusedVariables false
set_option linter.unusedSimpArgs false
namespace Go.Sx
open Go.RowKit

variable {P : Program} {n : Nat} {S : List Nat} {w0 : World} {ss : List (Nat × Value)} {l : List It}
variable {ops : Array Oper} {Q : Exit → Act → World → Prop} {rest : List Oper} {o : Oper} {a : Act} {w : World}

theorem treg {id : Nat} {rl : List Oper} (k : Nat) (hm : P.follows .mixedOrders = true) (hB : Region.lexTailB .any rl.toArray k = true) (H : St n S w0 ss l a w)
    (h : ∀ w', St n S w0 ss l a w' → wpStill P rl.toArray w' (fun a' => wpList P rl.toArray Q (rl.drop k) a' w') (rl.take k) a) : (Code.region id rl.toArray true).wp P Q a w :=
  wp_region_still_tail k hm hB (h _ ⟨H.fr, H.sep.drewN 1⟩)
variable {Qa : Act → Prop}
theorem tplain {d : Nat} {v : Value} (hy : Yld P n S w0 ss l o v) (hw : wantB ops ss o = some true) (hd : o.dst = some d) (hn : Nat.ble (d + 1) n = true) (H : St n S w0 ss l a w)
    (K : ∀ a', St n S w0 ((d, v) :: ss) l a' w → wpStill P ops w Qa rest a') : wpStill P ops w Qa (o :: rest) a := by
  unfold wpStill
  rw [if_pos (wanted_of H.fr hw)]
  unfold Oper.still
  rw [hy a w H.fr H.sep, Oper.stillUpon_value, hd]
  exact K _ ⟨H.fr.put (Nat.lt_of_succ_le (Nat.le_of_ble_eq_true hn)) v, H.sep⟩
theorem tfin {a : Act} (h : Qa a) : wpStill P ops w Qa [] a := h

/-! ### Pointers beside nil -/
theorem run_ptr_nil {t e : TypeId} (p : Option Addr) (m : Nat) (h : P.underlying t = some (.pointer e)) : (Op.equalIn (m + 1) t (.pointer p) (.pointer none)).run P w = .ok p.isNone w := by
  unfold Op.equalIn
  simp only [Sem.run_bind, run_underlying h, Result.andThen_ok]
  cases p <;> simp
theorem y_peql {t t' e : TypeId} {x : Operand} {y : Operand} {p : Option Addr} (ho : o.op = .binOp .eql t x y t') (ht : P.underlying t = some (.pointer e)) (hx : evO ss x = some (.pointer p)) (hy : evO ss y = some (.pointer none)) : Yld P n S w0 ss l o (.bool p.isNone) := by
  intro a w F _
  have h1 := run_ptr_nil (w := w) p 9999 ht
  simp [execOp, ho, F.ev hx, F.ev hy, eqGuard, binOp, Op.equal, Op.maxDepth, h1]
/-! ### Calls that write what they were given -/
theorem Sep.only {S : List Nat} {w0 w : World} {l : List It} {i : It} (h : Sep S w0 w l) (hi : i ∈ l) : Sep i.fp w w [i] :=
  ⟨Frm.refl _ _, fun j hj => by rw [List.mem_singleton.1 hj]; exact h.all i hi, fun j hj b hb => by rw [List.mem_singleton.1 hj] at hb; exact .inl hb, by simp⟩
/-- A call that hands back v and turns the item i into i'. -/
def Turns (v : Value) (i i' : It) (w : World) : Ending → World → Prop := Post i.fp w (fun u l => u = v ∧ l = [i'])
/-- .. and at the end of such a callee. -/
theorem Turns.ret {v : Value} {i i' : It} {w w' : World} (h : Sep i.fp w w' [i']) : Turns v i i' w (.returned v) w' := ⟨v, [i'], rfl, ⟨rfl, rfl⟩, h⟩

/-! ### Lists of numbers -/
def i64 (n : Int) : Value := .int .i64 n
theorem i64_get (L : List Int) (k : Nat) (h : k < L.length) : (L.map i64)[k]? = some (.int .i64 (L.getD k 0)) := map_get i64 L k 0 h
/-! ### What is only read -/
theorem Sep.one {i : It} {w : World} (h : i.P w) : Sep i.fp w w [i] :=
  ⟨Frm.refl _ _, fun j hj => by rw [List.mem_singleton.1 hj]; exact h, fun j hj b hb => by rw [List.mem_singleton.1 hj] at hb; exact .inl hb, by simp⟩
theorem Sep.keep {w0 w : World} {l : List It} {i : It} (hs : Sep [] w0 w l) (hp : i.P w0) : i.P w := i.st w0 w (fun b hb => hs.frm.block b (i.lt w0 hp b hb) (by simp)) hp
theorem Sep.still {w w' : World} {b : Nat} {E : TypeId} {cs : List Value} {l : List It} (hp : (It.blk b E cs).P w) (hs : Sep [b] w w' (l ++ [It.blk b E cs])) : Sep [] w w' l := by
  have hd := List.pairwise_append.1 hs.dis
  refine ⟨⟨hs.frm.os, hs.frm.tape, hs.frm.output, hs.frm.size, fun k hk _ => ?_⟩, fun i hi => hs.all i (List.mem_append_left _ hi), fun i hi c hc => ?_, hd.1⟩
  · by_cases e : k = b
    · subst e
      exact (hs.all _ (List.mem_append_right _ (List.mem_singleton.2 rfl))).trans hp.symm
    · exact hs.frm.block k hk (by simpa using e)
  · rcases hs.own i (List.mem_append_left _ hi) c hc with h | h
    · exact absurd h (hd.2.2 i hi _ (List.mem_singleton.2 rfl) c hc)
    · exact .inr h
theorem Post.still {f : FuncId} {args : Array Value} {w : World} {b : Nat} {E : TypeId} {cs : List Value} {Φ : Value → List It → Prop} (hp : (It.blk b E cs).P w)
    (h : Calls P f args w (Post [b] w fun u l => ∃ l', l = l' ++ [It.blk b E cs] ∧ Φ u l')) : Calls P f args w (Post [] w Φ) :=
  h.mono fun e w' ⟨v, l, he, ⟨l', hl, hΦ⟩, hs⟩ => ⟨v, l', he, hΦ, Sep.still hp (hl ▸ hs)⟩
theorem blk_cell {w : World} {b o : Nat} {E : TypeId} {cs : List Value} {v : Value} (h : (It.blk b E cs).P w) (hv : cs[o]? = some v) : w.cell? ⟨b, o, none⟩ = some v := by rw [cell_blk h]; simpa using hv
end Go.Sx

/- Own words: how arguments read: numbers, texts, structs, arrays, slices of such. -/
set_option linter.unusedVariables false
set_option linter.unusedSimpArgs false
namespace Go.Sx
open Go.RowKit Go.WideShapes Go.ChangeAt Go.ChangeShapes

section
variable {H : Type} (enc : TypeId × Value → H) (P : Program) (W : World) (sp : Nat → Bool) (held : Bool)
def Tr (t : TypeId) (cs : List Value) : Prop := ∃ fuel x, DataW.trod enc P W 0 sp held fuel t cs = some x
end
section
variable {H : Type} {enc : TypeId × Value → H} {P : Program} {W : World} {sp : Nat → Bool} {held : Bool} {t e : TypeId} {cs : List Value}
theorem Tr.of {v : Value} {d : DataW H} {ps : List MemPlace} (h : DataW.Trod enc P W 0 sp held t v d ps) : Tr enc P W sp held t v.cells.toList := by
  obtain ⟨fuel, hf⟩ := h
  exact ⟨fuel, _, hf⟩
theorem Tr.int {k : IntKind} (h : Tr enc P W sp held t cs) (ht : P.underlying t = some (.int k)) : ∃ n, cs = [.int k n] ∧ (Lit.int k n).wf = true := by
  obtain ⟨fuel, x, hf⟩ := h
  obtain ⟨n, h1, _, h2⟩ := DataW.trod_int ht hf
  exact ⟨n, h1, h2⟩
theorem Tr.bool (h : Tr enc P W sp held t cs) (ht : P.underlying t = some .bool) : ∃ b, cs = [.bool b] := by
  obtain ⟨fuel, x, hf⟩ := h
  obtain ⟨n, h1, _⟩ := DataW.trod_bool ht hf
  exact ⟨n, h1⟩
theorem Tr.str (h : Tr enc P W sp held t cs) (ht : P.underlying t = some .string) : ∃ s : List UInt8, cs = [Sx.str s] ∧ s.length ≤ 9223372036854775807 := by
  obtain ⟨fuel, x, hf⟩ := h
  obtain ⟨n, h1, _, h2⟩ := DataW.trod_string ht hf
  exact ⟨n.data.toList, h1, by unfold maxLen at h2; simpa using h2⟩
theorem Tr.struct {fs : Array Field} (h : Tr enc P W sp held t cs) (ht : P.underlying t = some (.struct fs)) : cs.length = P.cellsOf t ∧ ∀ (i : Nat) (f : Field), fs[i]? = some f → Tr enc P W sp held f.type ((cs.drop f.offset).take (P.cellsOf f.type)) := by
  obtain ⟨fuel, x, hf⟩ := h
  obtain ⟨xs, n, _, _, h1, h2, h3⟩ := DataW.trod_struct ht hf
  refine ⟨h1, fun i f hi => ?_⟩
  have hlt : i < fs.size := (Array.getElem?_eq_some_iff.1 hi).1
  exact ⟨n, xs[i]'(by omega), by rw [h3 i f hi]; exact List.getElem?_eq_getElem _⟩
theorem Tr.array {n : Nat} (h : Tr enc P W sp held t cs) (ht : P.underlying t = some (.array n e)) : cs.length = P.cellsOf t ∧ ∀ i, i < n → Tr enc P W sp held e ((cs.drop (i * P.cellsOf e)).take (P.cellsOf e)) := by
  obtain ⟨fuel, x, hf⟩ := h
  obtain ⟨xs, m, _, _, h1, h2, h3⟩ := DataW.trod_array ht hf
  exact ⟨h1, fun i hi => ⟨m, xs[i]'(by omega), by rw [h3 i hi]; exact List.getElem?_eq_getElem _⟩⟩
theorem mapM_get {α β : Type} {f : α → Option β} : ∀ {l : List α} {r : List β}, l.mapM f = some r → r.length = l.length ∧ ∀ (i : Nat) (a : α), l[i]? = some a → f a = r[i]?
  | [], r, h => by simp at h; subst h; simp
  | x :: l, r, h => by
    simp only [List.mapM_cons, Option.bind_eq_bind, Option.bind_eq_some_iff, Option.pure_def, Option.some.injEq] at h
    obtain ⟨y, hy, ys, hys, rfl⟩ := h
    obtain ⟨h1, h2⟩ := mapM_get hys
    refine ⟨by simp [h1], fun i a hi => ?_⟩
    cases i with
    | zero => simp at hi; subst hi; simpa using hy
    | succ i => simpa using h2 i a (by simpa using hi)
theorem cells_get {w : World} {base n : Nat} {a : Addr} {cs : List Value} (h : w.cells? base a n = some cs) : cs.length = n ∧ ∀ i, i < n → w.cell? (a.add i) = cs[i]? := by
  unfold World.cells? at h
  split at h
  · obtain ⟨h1, h2⟩ := mapM_get h
    exact ⟨by simpa using h1, fun i hi => h2 i i (by simp [hi])⟩
  · cases h
theorem add_add0 {a : Addr} {w : World} {v : Value} (hc : w.cell? a = some v) (i j : Nat) : (a.add i).add j = a.add (i + j) := by
  have hs : a.spot = none := by
    unfold World.cell? at hc
    split at hc
    · split at hc
      · cases hc
      · rename_i h; simpa using h
    · cases hc
  obtain ⟨b, o, s⟩ := a
  simp only at hs
  subst hs
  simp [add_mk, Nat.add_assoc]
theorem add_zero (a : Addr) : a.add 0 = a := by simp [Addr.add]
theorem Rd.flat {w : World} {a : Addr} {z : Nat} : ∀ {rows : List (List Value)}, (∀ r ∈ rows, r.length = z) → 0 < z → (∀ i j v, (rows[i]?).bind (·[j]?) = some v → w.cell? (a.add (i * z + j)) = some v) → ∀ q v, rows.flatten[q]? = some v → w.cell? (a.add q) = some v := by
  intro rows hz hp h q v hq
  have key : ∀ (rows : List (List Value)) (q : Nat), (∀ r ∈ rows, r.length = z) → rows.flatten[q]? = some v → (rows[q / z]?).bind (·[q % z]?) = some v := by
    intro rows
    induction rows with
    | nil => intro q _ h; simp at h
    | cons r rs ih =>
      intro q hz h
      have hr : r.length = z := hz r (by simp)
      by_cases hlt : q < z
      · rw [Nat.div_eq_of_lt hlt, Nat.mod_eq_of_lt hlt]
        rw [List.flatten_cons, List.getElem?_append_left (by omega)] at h
        simpa using h
      · rw [List.flatten_cons, List.getElem?_append_right (by omega), hr] at h
        have := ih (q - z) (fun r hr => hz r (by simp [hr])) h
        have e1 : q / z = (q - z) / z + 1 := by
          conv => lhs; rw [show q = (q - z) + z by omega]
          rw [Nat.add_div_right _ hp]
        have e2 : q % z = (q - z) % z := by
          conv => lhs; rw [show q = (q - z) + z by omega]
          rw [Nat.add_mod_right]
        rw [e1, e2]
        simpa using this
  have := h _ _ _ (key rows q hz hq)
  rwa [Nat.div_add_mod' q z] at this
/-- A slice, row by row. -/
theorem Tr.sliceC (h : Tr enc P W sp held t cs) (ht : P.underlying t = some (.slice e)) (hz : 0 < P.cellsOf e) : ∃ a m c, cs = [.slice a m c] ∧ m ≤ c ∧ m ≤ 9223372036854775807 ∧ ∃ rows : List (List Value), rows.length = m ∧ Rd W a rows.flatten ∧ ∀ r ∈ rows, r.length = P.cellsOf e ∧ Tr enc P W sp held e r := by
  obtain ⟨fuel, x, hf⟩ := h
  rcases Go.Deep.open_slice ht hf with ⟨h0, _⟩ | ⟨a, len, cap, m, n, D, Pl, h0, _, hl, hm, hmm, _, hel⟩
  · exact ⟨none, 0, 0, h0, by omega, by omega, [], rfl, .inl rfl, by simp⟩
  · have hle : len ≤ m := by rw [hmm]; split <;> omega
    unfold maxLen at hm
    have hrow : ∀ i, i < len → ∃ cs', W.cells? 0 (a.add (i * P.cellsOf e)) (P.cellsOf e) = some cs' ∧ Tr enc P W sp held e cs' := fun i hi => by
      obtain ⟨cs', h1, h2⟩ := hel i (by omega)
      exact ⟨cs', h1, n, _, h2⟩
    let f : Nat → List Value := fun i => (W.cells? 0 (a.add (i * P.cellsOf e)) (P.cellsOf e)).getD []
    have hf' : ∀ i, i < len → W.cells? 0 (a.add (i * P.cellsOf e)) (P.cellsOf e) = some (f i) ∧ Tr enc P W sp held e (f i) := fun i hi => by
      obtain ⟨cs', h1, h2⟩ := hrow i hi
      have : f i = cs' := by show (W.cells? 0 _ _).getD [] = cs'; rw [h1]; rfl
      rw [this]
      exact ⟨h1, h2⟩
    refine ⟨some a, len, cap, h0, hl, by omega, (List.range len).map f, by simp, ?_, ?_⟩
    · by_cases h00 : len = 0
      · subst h00; exact .inl rfl
      · right
        refine ⟨a, rfl, Rd.flat (z := P.cellsOf e) (fun r hr => ?_) hz fun i j v hv => ?_⟩
        · obtain ⟨i, hi, rfl⟩ := List.mem_map.1 hr
          exact (cells_get (hf' i (by simpa using hi)).1).1
        · have h00' := cells_get (hf' 0 (by omega)).1
          have c0 : ∃ u, W.cell? a = some u := by
            have h1 := h00'.2 0 hz
            rw [Nat.zero_mul, add_zero, add_zero] at h1
            exact ⟨_, by rw [h1]; exact List.getElem?_eq_getElem (by omega)⟩
          obtain ⟨u, hu⟩ := c0
          simp only [List.getElem?_map, Option.bind_eq_some_iff, Option.map_eq_some_iff] at hv
          obtain ⟨r, ⟨i', hi', rfl⟩, hv⟩ := hv
          have hi : i < len ∧ i' = i := by
            have := List.getElem?_eq_some_iff.1 hi'
            obtain ⟨h1, h2⟩ := this
            simp at h1 h2
            omega
          obtain ⟨hi, rfl⟩ := hi
          obtain ⟨h1, h2⟩ := cells_get (hf' i' hi).1
          have hj : j < P.cellsOf e := by
            have := (List.getElem?_eq_some_iff.1 hv).1
            omega
          rw [← add_add0 hu, h2 j hj]
          exact hv
    · intro r hr
      obtain ⟨i, hi, rfl⟩ := List.mem_map.1 hr
      have := hf' i (by simpa using hi)
      exact ⟨(cells_get this.1).1, this.2⟩
theorem Tr.slice (h : Tr enc P W sp held t cs) (ht : P.underlying t = some (.slice e)) (hz : 0 < P.cellsOf e) : ∃ a m c, cs = [.slice a m c] ∧ m ≤ 9223372036854775807 ∧ ∃ rows : List (List Value), rows.length = m ∧ Rd W a rows.flatten ∧ ∀ r ∈ rows, r.length = P.cellsOf e ∧ Tr enc P W sp held e r := by
  obtain ⟨a, m, c, h1, _, h2⟩ := h.sliceC ht hz
  exact ⟨a, m, c, h1, h2⟩
end
/-- Rows told as values of a type of ours. -/
theorem rows_map {α : Type} {f : α → List Value} {p : α → Prop} : ∀ {rows : List (List Value)}, (∀ r ∈ rows, ∃ x, r = f x ∧ p x) → ∃ xs : List α, rows = xs.map f ∧ ∀ x ∈ xs, p x
  | [], _ => ⟨[], rfl, by simp⟩
  | r :: rs, h => by
    obtain ⟨x, hx, px⟩ := h r (by simp)
    obtain ⟨xs, hxs, pxs⟩ := rows_map (fun r' hr => h r' (List.mem_cons_of_mem _ hr))
    exact ⟨x :: xs, by rw [hx, hxs]; rfl, by simpa using ⟨px, pxs⟩⟩
def pieces (cs : List Value) : Nat → List Nat → List Value
  | _, [] => []
  | o, k :: ks => (cs.drop o).take k ++ pieces cs (o + k) ks
theorem pieces_eq (cs : List Value) : ∀ (ks : List Nat) (o : Nat), cs.length = o + ks.sum → cs.drop o = pieces cs o ks
  | [], o, h => by simp at h; simp [pieces, ← h]
  | k :: ks, o, h => by
    have := pieces_eq cs ks (o + k) (by simp at h; omega)
    rw [pieces, ← this, ← List.drop_drop, List.take_append_drop]
theorem pieces_all {cs : List Value} (ks : List Nat) (h : cs.length = ks.sum) : cs = pieces cs 0 ks := by
  have := pieces_eq cs ks 0 (by omega)
  simpa using this

/-! ### Slices of structs, read -/
theorem Rd.spot {w : World} {A : Option Addr} {cs : List Value} (h : Rd w A cs) (hp : 0 < cs.length) : ∀ ad, A = some ad → ad.spot = none := by
  rintro ad rfl
  obtain ⟨ad', e, hc⟩ := h.cell (j := 0) (v := cs[0]) (List.getElem?_eq_getElem hp)
  injection e with e
  subst e
  rw [add_zero] at hc
  unfold World.cell? at hc
  split at hc
  · split at hc
    · cases hc
    · rename_i h; simpa using h
  · cases hc
section
variable {P : Program} {n : Nat} {S : List Nat} {w0 : World} {ss : List (Nat × Value)} {l : List It} {o : Oper}
theorem y_fieldS {x : Operand} {t : TypeId} {i k k' : Nat} {A : Option Addr} {cs : List Value} (ho : o.op = .fieldAddr t x i) (hf : fieldB P t i = some k') (hx : evO ss x = some (.pointer (A.map (·.add k)))) (hr : ∀ w, Sep S w0 w l → Rd w A cs) (hne : 0 < cs.length) : Yld P n S w0 ss l o (.pointer (A.map (·.add (k + k')))) :=
  fun a w F hs => y_fieldR ho hf hx hr hne (Rd.spot (hr w hs) hne) a w F hs
theorem y_loadAS {x : Operand} {t : TypeId} {A : Option Addr} {k z : Nat} {cs ds : List Value} (ho : o.op = .load t x) (ht : aggB P t = some true) (hz : sizeB P t = some z) (hx : evO ss x = some (.pointer (A.map (·.add k)))) (hr : ∀ w, Sep S w0 w l → Rd w A cs) (hv : (cs.drop k).take z = ds) (hl : ds.length = z) (hp : 0 < z) : Yld P n S w0 ss l o (.agg ds.toArray) :=
  fun a w F hs => y_loadAR ho ht hz hx hr hv hl hp (Rd.spot (hr w hs) (by
    have : ds.length ≤ cs.length := by rw [← hv]; simp; omega
    omega)) a w F hs
end
section
variable {H : Type} {enc : TypeId × Value → H} {P : Program} {W : World} {sp : Nat → Bool} {held : Bool} {t e : TypeId} {cs : List Value}
theorem Tr.field {fs : Array Field} (h : Tr enc P W sp held t cs) (ht : P.underlying t = some (.struct fs)) (i : Nat) {f : Field} (hi : fs[i]? = some f) {o k T : Nat} (ho : f.offset = o) (hT : f.type = T) (hk : P.cellsOf T = k) : Tr enc P W sp held T ((cs.drop o).take k) := by
  have := (h.struct ht).2 i f hi
  rwa [ho, hT, hk] at this
theorem Tr.pieces {fs : Array Field} (h : Tr enc P W sp held t cs) (ht : P.underlying t = some (.struct fs)) (ks : List Nat) (hk : P.cellsOf t = ks.sum) : cs = pieces cs 0 ks := pieces_all ks (by rw [(h.struct ht).1, hk])
theorem Tr.i64 (h : Tr enc P W sp held t cs) (ht : P.underlying t = some (.int .i64)) : ∃ n, cs = [Sx.i64 n] ∧ -9223372036854775808 ≤ n ∧ n ≤ 9223372036854775807 := by
  obtain ⟨n, h1, h2⟩ := h.int ht
  exact ⟨n, h1, wf_i64 h2⟩
theorem Tr.u8 (h : Tr enc P W sp held t cs) (ht : P.underlying t = some (.int .u8)) : ∃ b : UInt8, cs = [Sx.u8 b] := by
  obtain ⟨n, h1, h2⟩ := h.int ht
  simp [Lit.wf, IntKind.min, IntKind.max, IntKind.bits, IntKind.signed] at h2
  refine ⟨UInt8.ofNat n.toNat, ?_⟩
  rw [h1]
  show [Value.int .u8 n] = [Value.int .u8 ((UInt8.ofNat n.toNat).toNat : Int)]
  rw [UInt8.toNat_ofNat']
  congr 2
  omega
theorem bytes_of : ∀ {cs : List Value}, (∀ i, i < cs.length → ∃ b : UInt8, (cs.drop i).take 1 = [Sx.u8 b]) → ∃ bs : List UInt8, cs = bs.map Sx.u8
  | [], _ => ⟨[], rfl⟩
  | c :: cs, h => by
    obtain ⟨b, hb⟩ := h 0 (by simp)
    obtain ⟨bs, hbs⟩ := bytes_of (cs := cs) (fun i hi => by simpa using h (i + 1) (by simpa using hi))
    refine ⟨b :: bs, ?_⟩
    simp at hb
    rw [hb, hbs]
    rfl
theorem Tr.bytes {n : Nat} (h : Tr enc P W sp held t cs) (ht : P.underlying t = some (.array n e)) (he : P.underlying e = some (.int .u8)) (hn : P.cellsOf t = n) (h1 : P.cellsOf e = 1) : ∃ bs : List UInt8, cs = bs.map Sx.u8 ∧ bs.length = n := by
  obtain ⟨hl, hf⟩ := h.array ht
  obtain ⟨bs, hbs⟩ := bytes_of (cs := cs) (fun i hi => by
    have := hf i (by omega)
    rw [h1, Nat.mul_one] at this
    exact this.u8 he)
  exact ⟨bs, hbs, by rw [← List.length_map (f := Sx.u8), ← hbs, hl, hn]⟩
end
end Go.Sx

/- Own words: words of 32 bits. -/
set_option linter.unusedVariables false
set_option linter.unusedSimpArgs false
namespace Go.Sx
open Go.RowKit
variable {P : Program} {n : Nat} {S : List Nat} {w0 : World} {ss : List (Nat × Value)} {l : List It} {o : Oper}

theorem wrap32 (x : Int) : IntKind.u32.wrap x = x % 4294967296 := by simp [IntKind.wrap, IntKind.bits, IntKind.signed]
theorem ofInt32 (a : BitVec 32) : BitVec.ofInt 32 (a.toNat : Int) = a := by
  rw [BitVec.ofInt_natCast]
  simp
theorem add32 (a b : BitVec 32) : IntKind.u32.wrap ((a.toNat : Int) + (b.toNat : Int)) = ((a + b).toNat : Int) := by
  rw [wrap32, BitVec.toNat_add]
  omega
theorem shl32 (a : BitVec 32) (k : Nat) (hk : k ≤ 32) : IntKind.u32.wrap ((a.toNat : Int) * 2 ^ (min ((k : Int).toNat) IntKind.u32.bits)) = ((a <<< k).toNat : Int) := by
  have e : min ((k : Int).toNat) IntKind.u32.bits = k := by show min ((k : Int).toNat) 32 = k; rw [Int.toNat_natCast]; omega
  rw [e, wrap32, BitVec.toNat_shiftLeft, Nat.shiftLeft_eq]
  have e2 : ((a.toNat : Int) * 2 ^ k) = ((a.toNat * 2 ^ k : Nat) : Int) := by rw [Int.natCast_mul, Int.natCast_pow]; rfl
  rw [e2]
  omega
theorem shr32 (a : BitVec 32) (k : Nat) (hk : k ≤ 32) : Int.fdiv (a.toNat : Int) (2 ^ (min ((k : Int).toNat) IntKind.u32.bits)) = ((a >>> k).toNat : Int) := by
  have e : min ((k : Int).toNat) IntKind.u32.bits = k := by show min ((k : Int).toNat) 32 = k; rw [Int.toNat_natCast]; omega
  have hp : (0 : Int) ≤ (2 : Int) ^ k := Int.pow_nonneg (by omega)
  rw [e, Int.fdiv_eq_ediv_of_nonneg _ hp, BitVec.toNat_ushiftRight, Nat.shiftRight_eq_div_pow]
  have e2 : ((2 : Int) ^ k) = ((2 ^ k : Nat) : Int) := by rw [Int.natCast_pow]; rfl
  rw [e2, Int.natCast_ediv]
theorem and32 (a b : BitVec 32) : IntKind.u32.wrap ((BitVec.ofInt IntKind.u32.bits (a.toNat : Int) &&& BitVec.ofInt IntKind.u32.bits (b.toNat : Int)).toNat : Int) = ((a &&& b).toNat : Int) := by
  show IntKind.u32.wrap ((BitVec.ofInt 32 (a.toNat : Int) &&& BitVec.ofInt 32 (b.toNat : Int)).toNat : Int) = _
  rw [ofInt32, ofInt32, wrap32]
  have := (a &&& b).isLt
  omega
theorem or32 (a b : BitVec 32) : IntKind.u32.wrap ((BitVec.ofInt IntKind.u32.bits (a.toNat : Int) ||| BitVec.ofInt IntKind.u32.bits (b.toNat : Int)).toNat : Int) = ((a ||| b).toNat : Int) := by
  show IntKind.u32.wrap ((BitVec.ofInt 32 (a.toNat : Int) ||| BitVec.ofInt 32 (b.toNat : Int)).toNat : Int) = _
  rw [ofInt32, ofInt32, wrap32]
  have := (a ||| b).isLt
  omega
theorem xor32 (a b : BitVec 32) : IntKind.u32.wrap ((BitVec.ofInt IntKind.u32.bits (a.toNat : Int) ^^^ BitVec.ofInt IntKind.u32.bits (b.toNat : Int)).toNat : Int) = ((a ^^^ b).toNat : Int) := by
  show IntKind.u32.wrap ((BitVec.ofInt 32 (a.toNat : Int) ^^^ BitVec.ofInt 32 (b.toNat : Int)).toNat : Int) = _
  rw [ofInt32, ofInt32, wrap32]
  have := (a ^^^ b).isLt
  omega
theorem y_add32 {t t' : TypeId} {x y : Operand} {p q : BitVec 32} (ho : o.op = .binOp .add t x y t') (hx : evO ss x = some (u32 p)) (hy : evO ss y = some (u32 q)) : Yld P n S w0 ss l o (u32 (p + q)) := y_add ho hx hy (add32 p q)
theorem y_and32 {t t' : TypeId} {x y : Operand} {p q : BitVec 32} (ho : o.op = .binOp .and t x y t') (hx : evO ss x = some (u32 p)) (hy : evO ss y = some (u32 q)) : Yld P n S w0 ss l o (u32 (p &&& q)) := y_and ho hx hy (and32 p q)
theorem y_or32 {t t' : TypeId} {x y : Operand} {p q : BitVec 32} (ho : o.op = .binOp .or t x y t') (hx : evO ss x = some (u32 p)) (hy : evO ss y = some (u32 q)) : Yld P n S w0 ss l o (u32 (p ||| q)) := y_or ho hx hy (or32 p q)
theorem y_xor32 {t t' : TypeId} {x y : Operand} {p q : BitVec 32} (ho : o.op = .binOp .xor t x y t') (hx : evO ss x = some (u32 p)) (hy : evO ss y = some (u32 q)) : Yld P n S w0 ss l o (u32 (p ^^^ q)) := y_xor ho hx hy (xor32 p q)
theorem y_shl32 {t t' : TypeId} {x y : Operand} {k' : IntKind} {p : BitVec 32} {k : Nat} (ho : o.op = .binOp .shl t x y t') (hx : evO ss x = some (u32 p)) (hy : evO ss y = some (.int k' (k : Int))) (hk : k ≤ 32) : Yld P n S w0 ss l o (u32 (p <<< k)) := y_shl ho hx hy (by omega) (shl32 p k hk)
theorem y_shr32 {t t' : TypeId} {x y : Operand} {k' : IntKind} {p : BitVec 32} {k : Nat} (ho : o.op = .binOp .shr t x y t') (hx : evO ss x = some (u32 p)) (hy : evO ss y = some (.int k' (k : Int))) (hk : k ≤ 32) : Yld P n S w0 ss l o (u32 (p >>> k)) := y_shr ho hx hy (by omega) (shr32 p k hk)
theorem not32 (a : BitVec 32) : IntKind.u32.wrap ((BitVec.ofInt IntKind.u32.bits IntKind.u32.max ^^^ BitVec.ofInt IntKind.u32.bits (a.toNat : Int)).toNat : Int) = ((~~~ a).toNat : Int) := by
  show IntKind.u32.wrap ((BitVec.ofInt 32 IntKind.u32.max ^^^ BitVec.ofInt 32 (a.toNat : Int)).toNat : Int) = _
  have e : BitVec.ofInt 32 IntKind.u32.max = BitVec.allOnes 32 := by decide
  rw [ofInt32, e, BitVec.allOnes_xor, wrap32]
  have := (~~~ a).isLt
  omega
theorem y_not32 {t : TypeId} {x : Operand} {p : BitVec 32} (ho : o.op = .unOp .xor t x) (hx : evO ss x = some (u32 p)) : Yld P n S w0 ss l o (u32 (~~~ p)) := by
  intro a w F _
  have h := not32 p
  have e : (if IntKind.u32.signed = true then (-1 : Int) else IntKind.u32.max) = IntKind.u32.max := by decide
  simp only [execOp, ho, F.ev hx, Op.unary, Op.intBits, e, h]
  simp
def w8 (b : UInt8) : BitVec 32 := BitVec.ofNat 32 b.toNat
theorem y_wide {s t : TypeId} {x : Operand} {b : UInt8} {d : TypeDesc} (ho : o.op = .convert s t x) (hs : P.underlying s = some d) (ht : P.underlying t = some (.int .u32)) (hx : evO ss x = some (u8 b)) : Yld P n S w0 ss l o (u32 (w8 b)) :=
  y_conv ho hs ht hx (by
    have := b.toNat_lt
    rw [wrap32, w8, BitVec.toNat_ofNat]
    omega)
def lo8 (x : BitVec 32) : UInt8 := UInt8.ofNat x.toNat
theorem y_low {s t : TypeId} {x : Operand} {p : BitVec 32} {d : TypeDesc} (ho : o.op = .convert s t x) (hs : P.underlying s = some d) (ht : P.underlying t = some (.int .u8)) (hx : evO ss x = some (u32 p)) : Yld P n S w0 ss l o (u8 (lo8 p)) :=
  y_conv ho hs ht hx (wu8_nat p.toNat)
end Go.Sx
