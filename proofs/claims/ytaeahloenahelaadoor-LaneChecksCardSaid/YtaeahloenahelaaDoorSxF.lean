/- Own words for walks: literals, make, copy. -/
import Derived.Test.YtaeahloenahelaaDoorSxE
import Derived.Laws.MakeOwn
set_option linter.unusedVariables false
set_option linter.unusedSimpArgs false
namespace Go.Sx
open Go.RowKit Go.Lib

/-! ### Literals -/
def evps (ss : List (Nat × Value)) : List (Nat × Operand) → Option (List (Nat × Value))
  | [] => some []
  | (i, x) :: r => match evO ss x, evps ss r with
    | some v, some vs => some ((i, v) :: vs)
    | _, _ => none
theorem evps_map {n : Nat} {ss : List (Nat × Value)} {a : Act} (F : Fr n ss a) : ∀ {r : List (Nat × Operand)} {vs : List (Nat × Value)}, evps ss r = some vs → r.map (fun p => (p.1, a.eval p.2)) = vs
  | [], vs, h => by simpa [evps] using h
  | (i, x) :: r, vs, h => by
    simp only [evps] at h
    split at h
    · rename_i v us h1 h2
      have e : (i, v) :: us = vs := by simpa using h
      rw [← e, List.map_cons, F.ev h1, evps_map F h2]
    · simp at h

/-- A part laid over cells. -/
def lay (place : Nat → Option (Nat × Nat)) (cs : List Value) : List (Nat × Value) → Option (List Value)
  | [] => some cs
  | (i, v) :: rest =>
    match place i with
    | none => none
    | some (off, size) => if v.cells.toList.length ≠ size ∨ cs.length < off + size then none else lay place (spl cs off v.cells.toList) rest

theorem foldl_set (off : Nat) : ∀ (vs : List Value) (k : Nat) (cs : Array Value), off + k + vs.length ≤ cs.size →
    ((vs.zipIdx k).foldl (fun (cs : Array Value) (p : Value × Nat) => cs.setIfInBounds (off + p.2) p.1) cs).toList = cs.toList.take (off + k) ++ vs ++ cs.toList.drop (off + k + vs.length)
  | [], k, cs, _ => by simp
  | v :: r, k, cs, h => by
    rw [List.zipIdx_cons, List.foldl_cons]
    have h' : off + (k + 1) + r.length ≤ (cs.setIfInBounds (off + k) v).size := by simp at h ⊢; omega
    rw [foldl_set off r (k + 1) _ h']
    have e := list_seg_step cs.toList (off + k) v r (by simp at h ⊢; omega)
    simpa [Array.toList_setIfInBounds, Nat.add_assoc] using e

theorem fill_lay (place : Nat → Option (Nat × Nat)) : ∀ (vs : List (Nat × Value)) (cs : Array Value) (ds : List Value), lay place cs.toList vs = some ds → Instr.fill place cs vs = some ds.toArray
  | [], cs, ds, h => by
    simp only [lay, Option.some.injEq] at h
    simp [Instr.fill, ← h]
  | (i, v) :: rest, cs, ds, h => by
    simp only [lay] at h
    simp only [Instr.fill]
    split at h
    · simp at h
    · rename_i off size hp
      split at h
      · simp at h
      · rename_i hc
        have h1 : v.cells.size = size := by
          have := fun e => hc (.inl e)
          simpa using this
        have h2 : off + size ≤ cs.size := by
          have := fun e => hc (.inr e)
          simp at this
          omega
        rw [hp]
        simp only
        have hn : (decide (v.cells.size ≠ size) || decide (off + v.cells.size > cs.size)) = false := by simp [h1]; omega
        rw [if_neg (by simp only [hn]; simp)]
        refine fill_lay place rest _ ds ?_
        rw [← h]
        congr 1
        have e := foldl_set off v.cells.toList 0 cs (by simp [h1]; omega)
        have e2 : (Array.foldl (fun cs (x : Value × Nat) => cs.setIfInBounds (off + x.2) x.1) cs v.cells.zipIdx) = (v.cells.toList.zipIdx 0).foldl (fun (cs : Array Value) (p : Value × Nat) => cs.setIfInBounds (off + p.2) p.1) cs := by
          rw [← Array.foldl_toList]
          simp
        rw [e2, e]
        simp [spl]

/-- Where the parts of a struct or an array lie. -/
def placesB (P : Program) (t : TypeId) : Option (List (Nat × Nat)) :=
  match P.underlying t with
  | some (.struct fs) => fs.toList.mapM fun f => (sizeB P f.type).map fun z => (f.offset, z)
  | _ => none

section
variable {P : Program} {n : Nat} {S : List Nat} {w0 : World} {ss : List (Nat × Value)} {l : List It} {o : Oper}
variable {ops : Array Oper} {Q : Exit → Act → World → Prop} {rest : List Oper} {a : Act} {w : World}

theorem mapM_run {α β : Type} (f : α → Sem β) (g : α → Option β) : ∀ (xs : List α) (ys : List β), (∀ x y, g x = some y → (f x).run P w = .ok y w) → xs.mapM g = some ys → (xs.mapM f).run P w = .ok ys w
  | [], ys, _, h => by simp at h; subst h; simp
  | x :: xs, ys, hf, h => by
    rw [List.mapM_cons] at h
    cases hx : g x with
    | none => simp [hx] at h
    | some y =>
      cases hr : xs.mapM g with
      | none => simp [hx, hr] at h
      | some zs =>
        simp [hx, hr] at h
        subst h
        rw [List.mapM_cons]
        simp [hf x y hx, mapM_run f g xs zs hf hr]

theorem y_build {t : TypeId} {parts : List (Nat × Operand)} {vs : List (Nat × Value)} {zs cs : List Value} {pl : List (Nat × Nat)} (ho : o.op = .build t parts.toArray) (hz : zeroL P t = some zs) (hp : placesB P t = some pl) (ha : evps ss parts = some vs) (hc : lay (fun i => pl[i]?) zs vs = some cs) : Yld P n S w0 ss l o (.agg cs.toArray) := by
  intro a w F _
  have h1 := evps_map F ha
  obtain ⟨z, hz1, hz2⟩ := run_zero (w := w) hz
  unfold placesB at hp
  split at hp
  · rename_i fs ht
    have h2 : (fs.toList.mapM fun f => (do pure (f.offset, ← sizeOf f.type) : Sem (Nat × Nat))).run P w = .ok pl w := by
      refine mapM_run _ _ _ _ (fun f y hy => ?_) hp
      cases hs : sizeB P f.type with
      | none => simp [hs] at hy
      | some z =>
        have : (f.offset, z) = y := by simpa [hs] using hy
        subst this
        simp [run_sizeOf' hs]
    have h3 : (fs.mapM fun f => (do pure (f.offset, ← sizeOf f.type) : Sem (Nat × Nat))).run P w = .ok pl.toArray w := by
      rw [Array.mapM_eq_mapM_toList]
      simp only [Sem.run_map, h2, Result.andThen_ok]
    simp only [bind_pure_comp] at h3
    have h4 := fill_lay (fun i => pl[i]?) vs z.cells cs (by rw [hz2]; exact hc)
    have h5 : (fun i : Nat => pl.toArray[i]?) = fun i : Nat => pl[i]? := by funext i; simp
    simp [execOp, ho, Instr.build, hz1, run_underlying ht, h3, List.map_toArray, h1, h5, h4]
  · simp at hp

theorem y_buildA {t e : TypeId} {len z : Nat} {parts : List (Nat × Operand)} {vs : List (Nat × Value)} {zs cs : List Value} (ho : o.op = .build t parts.toArray) (hz : zeroL P t = some zs) (ht : P.underlying t = some (.array len e)) (he : sizeB P e = some z) (ha : evps ss parts = some vs) (hc : lay (fun i => some (i * z, z)) zs vs = some cs) : Yld P n S w0 ss l o (.agg cs.toArray) := by
  intro a w F _
  have h1 := evps_map F ha
  obtain ⟨zz, hz1, hz2⟩ := run_zero (w := w) hz
  have h4 := fill_lay (fun i => some (i * z, z)) vs zz.cells cs (by rw [hz2]; exact hc)
  simp [execOp, ho, Instr.build, hz1, run_underlying ht, run_sizeOf' he, List.map_toArray, h1, h4]

/-- A slice literal, or the list of a variadic call: a block of its own. -/
theorem st_buildSlice {t e : TypeId} {len z d : Nat} {parts : List (Nat × Operand)} {vs : List (Nat × Value)} {zs cs : List Value} (ho : o.op = .buildSlice t len parts.toArray) (ht : P.underlying t = some (.slice e)) (hz : sizeB P e = some z) (hzs : zeroL P e = some zs) (hlz : zs.length = z) (hsm : Nat.ble (len * z) 16777216 = true)
    (ha : evps ss parts = some vs) (hc : lay (fun i => some (i * z, z)) ((List.range (len * z)).map (fun i => zs.getD (i % z) undef)) vs = some cs) (hw : wantB ops ss o = some true) (hd : o.dst = some d) (hn : Nat.ble (d + 1) n = true) (H : St n S w0 ss l a w)
    (K : ∀ b a' w', St n S w0 ((d, .slice (some ⟨b, 0, none⟩) len len) :: ss) (It.blk b e cs :: l) a' w' → wpList P ops Q rest a' w') : wpList P ops Q (o :: rest) a w := by
  have h1 := evps_map H.fr ha
  obtain ⟨zz, hz1, hz2⟩ := run_zero (w := w) hzs
  have hsm' : ¬ (16777216 < len * z) := by have := Nat.le_of_ble_eq_true hsm; omega
  have hzz : zz.cells.size = z := by rw [← hlz, ← hz2]; simp
  have h4 : ∀ c : Array Value, c.toList = (List.range (len * z)).map (fun i => zs.getD (i % z) undef) → Instr.fill (fun i => some (i * z, z)) c vs = some cs.toArray := fun c hcc => fill_lay _ vs c cs (by rw [hcc]; exact hc)
  have hr : (execOp a.eval o).run P w = .ok (.value (.slice (some ⟨w.heap.size, 0, none⟩) len len)) (w.alloc (.cells cs.toArray e)) := by
    rcases Nat.eq_zero_or_pos (len * z) with h0 | h0
    · have h5 := h4 #[] (by simp [h0])
      have h6 : ∀ f : Nat → Value, (Array.range 0).map f = #[] := fun f => by simp
      simp [execOp, ho, Instr.buildSlice, run_underlying ht, run_sizeOf' hz, h0, List.map_toArray, h1, h6, h5, newRow, newObj, Sem.run]
    · have h0' : ¬ (len * z = 0) := by omega
      have h5 := h4 ((Array.range (len * z)).map (zz.cells[· % zz.cells.size]!)) (by
        simp only [Array.toList_map, Array.toList_range]
        refine List.map_congr_left fun i _ => ?_
        have hlt : i % z < zz.cells.size := by rw [hzz]; exact Nat.mod_lt _ (Nat.pos_of_mul_pos_left h0 |> fun _ => by rcases Nat.eq_zero_or_pos z with hz0 | hz0; subst hz0; simp at h0; exact hz0)
        rw [hzz, ← hz2]
        simp [hlt])
      simp [execOp, ho, Instr.buildSlice, run_underlying ht, run_sizeOf' hz, hsm', h0', hz1, List.map_toArray, h1, h5, newRow, newObj, Sem.run]
  refine does hw hd hn H hr (H.sep.alloc _) (fun a' H' => K w.heap.size a' _ H')

theorem lay_one : ∀ (vs : List Value) (k : Nat) (pre : List Value), pre.length = k → vs.all (·.oneCell') = true → ∀ (zs : List Value), zs.length = vs.length →
    lay (fun i => some (i * 1, 1)) (pre ++ zs) ((List.range' k vs.length).zip vs) = some (pre ++ vs)
  | [], k, pre, hk, _, zs, hz => by simp at hz; subst hz; simp [lay]
  | v :: vs, k, pre, hk, h1, zs, hz => by
    match zs, hz with
    | z :: zs, hz =>
      simp only [List.all_cons, Bool.and_eq_true] at h1
      have hv : v.cells.toList = [v] := by cases v <;> first | rfl | simp [Value.oneCell'] at h1
      simp only [List.length_cons, List.range'_succ, List.zip_cons_cons, lay, hv]
      rw [if_neg (by simp; omega), Nat.mul_one, spl_one _ _ _ (by simp; omega)]
      have e : (pre ++ z :: zs).set k v = (pre ++ [v]) ++ zs := by rw [List.set_append_right _ _ (by omega)]; simp [hk]
      rw [e, lay_one vs (k + 1) (pre ++ [v]) (by simp [hk]) h1.2 zs (by simpa using hz)]
      simp
theorem evps_evs {ss : List (Nat × Value)} : ∀ {ks : List Nat} {xs : List Operand} {vs : List Value}, ks.length = xs.length → evs ss xs = some vs → evps ss (ks.zip xs) = some (ks.zip vs)
  | [], [], vs, _, h => by simp [evs] at h; subst h; simp [evps]
  | k :: ks, x :: xs, vs, hl, h => by
    simp only [evs] at h
    split at h
    · rename_i v us h1 h2
      have e : v :: us = vs := by simpa using h
      subst e
      simp only [List.zip_cons_cons, evps, h1, evps_evs (by simpa using hl) h2]
    · simp at h
  | [], _ :: _, _, hl, _ => by simp at hl
  | _ :: _, [], _, hl, _ => by simp at hl
/-- A list of values of one cell each. -/
theorem st_buildSlice1 {t e : TypeId} {len d : Nat} {parts : List (Nat × Operand)} {xs : List Operand} {vs : List Value} {z0 : Value} (ho : o.op = .buildSlice t len parts.toArray) (ht : P.underlying t = some (.slice e)) (hz : sizeB P e = some 1) (hzs : zeroL P e = some [z0]) (hsm : Nat.ble (len * 1) 16777216 = true)
    (hp : parts = (List.range' 0 len).zip xs) (ha : evs ss xs = some vs) (hl : vs.length = len) (hlx : xs.length = len) (h1 : vs.all (·.oneCell') = true) (hw : wantB ops ss o = some true) (hd : o.dst = some d) (hn : Nat.ble (d + 1) n = true) (H : St n S w0 ss l a w)
    (K : ∀ b a' w', St n S w0 ((d, .slice (some ⟨b, 0, none⟩) len len) :: ss) (It.blk b e vs :: l) a' w' → wpList P ops Q rest a' w') : wpList P ops Q (o :: rest) a w := by
  have ha' : evps ss parts = some ((List.range' 0 len).zip vs) := by rw [hp]; exact evps_evs (by simp [hlx]) ha
  refine st_buildSlice ho ht hz hzs rfl hsm ha' ?_ hw hd hn H K
  have h := lay_one vs 0 [] rfl h1 ((List.range (len * 1)).map (fun i => [z0].getD (i % 1) undef)) (by simp [hl])
  simp only [List.nil_append, hl] at h
  exact h

/-- make([]T, n): a row of its own. -/
theorem st_make {t e : TypeId} {x y : Operand} {k k' : IntKind} {z bytes m d : Nat} {v : Value} (ho : o.op = .makeSlice t x y) (ht : sliceB P t = some (e, z, bytes)) (hx : evO ss x = some (.int k (m : Int))) (hy : evO ss y = some (.int k' (m : Int))) (hm : m ≤ maxLen) (hb : bytes * m ≤ 281474976710656)
    (hzs : (P.info? e).bind (·.zero) = some v) (hw : wantB ops ss o = some true) (hd : o.dst = some d) (hn : Nat.ble (d + 1) n = true) (H : St n S w0 ss l a w)
    (K : ∀ b a' w', St n S w0 ((d, .slice (some ⟨b, 0, none⟩) m m) :: ss) (It.blk b e (madeCells v.cells (m * z)).toList :: l) a' w' → wpList P ops Q rest a' w') : wpList P ops Q (o :: rest) a w := by
  unfold sliceB at ht
  split at ht
  · rename_i e1 ht1
    split at ht
    · rename_i i hi
      split at ht
      · rename_i zv hz
        split at ht
        · rename_i hzz
          simp only [Option.some.injEq, Prod.mk.injEq] at ht
          obtain ⟨rfl, hs, hbb⟩ := ht
          subst hs hbb
          have hv : zv = v := by simpa [hi, hz] using hzs
          subst hv
          have e2 : ((i.bytes * m : Nat) : Int) = (i.bytes : Int) * (m : Int) := Int.natCast_mul _ _
          have hbI : (i.bytes : Int) * (m : Int) ≤ 281474976710656 := by rw [← e2]; omega
          have hr := run_make (P := P) w t e1 i zv ht1 hi hz k k' (m : Int) (m : Int) (by omega) (Int.le_refl _) hbI (by unfold maxLen at hm; omega)
          simp only [Int.toNat_natCast] at hr
          refine does (v := .slice (some ⟨w.heap.size, 0, none⟩) m m) (w' := w.alloc (.cells (madeCells zv.cells (m * i.size)) e1)) hw hd hn H ?_ (H.sep.alloc _) (fun a' H' => K w.heap.size a' _ ?_)
          · simp [execOp, ho, H.fr.ev hx, H.fr.ev hy, hr]
          · have e : It.blk w.heap.size e1 (madeCells zv.cells (m * i.size)).toList = It.obj w.heap.size (.cells (madeCells zv.cells (m * i.size)) e1) := by unfold It.blk; rw [Array.toArray_toList]
            rw [e]
            exact H'
        · simp at ht
      · simp at ht
    · simp at ht
  · simp at ht
end
end Go.Sx
