/- What is written is read as it was, and back. -/
import Derived.Test.YtnnhnnhdoipbaaaDoorNote
namespace Go.Note
theorem list_small {l : List (List UInt8)} (h1 : l.length ≤ 1024) (h2 : l.flatten.length ≤ 65536) : (Oct.list l).2 = 0 := by rw [Oct.list_ok (by omega) (by omega)]
theorem list_fits {l : List (List UInt8)} (h : (Oct.list l).2 = 0) : l.length ≤ 1024 ∧ l.flatten.length ≤ 65536 ∧ (Oct.list l).1 = Oct.listL l := by
  unfold Oct.list at *
  split
  · rename_i h1; rw [if_pos h1] at h; simp at h
  · exact ⟨by omega, by omega, rfl⟩
theorem whole_list {l : List (List UInt8)} (h : (Oct.list l).2 = 0) : whole (Oct.list l).1 = (l, 0) := by
  obtain ⟨h1, h2, h3⟩ := list_fits h
  rw [h3]
  have h4 := Oct.rdl_listL [] [] h1 h2
  simp only [List.nil_append, List.append_nil, List.length_nil, Nat.zero_add, Int.ofNat_eq_natCast] at h4
  have h5 : Oct.rdl (Oct.listL l) 0 = _ := h4
  rw [whole_ok (by rw [h5]) (by rw [h5]), h5]
theorem wn_num {n : Int} (h0 : 0 ≤ n) (h1 : n ≤ 9223372036854775807) : wn (num n) = (n, 0) := by
  obtain ⟨m, rfl⟩ := Int.eq_ofNat_of_zero_le h0
  have e : num (m : Int) = Oct.numL m := by unfold num; rw [Oct.number_nat]
  rw [e]
  have h4 := Oct.rdn_numL [] [] (m := m) (by omega)
  simp only [List.nil_append, List.append_nil, List.length_nil, Nat.zero_add] at h4
  have h5 : Oct.rdn (Oct.numL m) 0 = _ := h4
  rw [wn_good (by rw [h5]) (by rw [h5]), h5]
theorem num_len {n : Int} (h1 : n ≤ 9223372036854775807) : (num n).length ≤ 9 := Oct.number_len h1
theorem first_nums : ∀ (ns : List Int) (rest : List (List UInt8)), (∀ n ∈ ns, 0 ≤ n ∧ n ≤ 9223372036854775807) → first (ns.map num ++ rest) ns.length = some ns := by
  intro ns rest h
  have e : (ns.map num ++ rest).take ns.length = ns.map num := List.take_left' (by simp)
  unfold first
  rw [if_neg (by simp), e, if_pos]
  · rw [List.map_map]
    congr 1
    conv => rhs; rw [← List.map_id ns]
    refine List.map_congr_left fun n hn => ?_
    show (wn (num n)).1 = n
    rw [wn_num (h n hn).1 (h n hn).2]
  · rw [List.all_eq_true]
    intro t ht
    obtain ⟨n, hn, rfl⟩ := List.mem_map.1 ht
    unfold okn
    rw [wn_num (h n hn).1 (h n hn).2]
    rfl
theorem fields_list {ns : List Int} {rest : List (List UInt8)} {k : Nat} (hk : ns.length = k) (h : ∀ n ∈ ns, 0 ≤ n ∧ n ≤ 9223372036854775807) (hl : (Oct.list (ns.map num ++ rest)).2 = 0) : fields (Oct.list (ns.map num ++ rest)).1 k = some (ns, rest) := by
  subst hk
  have hw := whole_list hl
  rw [fields_some (by rw [hw]; simp) (by rw [hw]; exact first_nums ns rest h), hw]
  simp only
  rw [List.drop_left' (by simp)]
theorem readBid_write {b : Bid} (ht : b.tag.length = 32) (h : (writeBid b).2 = 0) : readBid (writeBid b).1 = (b, 0) := by
  unfold writeBid at *
  by_cases hk : b.ok = true
  · rw [if_pos hk] at *
    have hw := ok_who hk
    have hf := fields_list (ns := [b.round, b.who, b.amount, b.salt]) (rest := [b.tag]) (k := 4) rfl (by
      intro n hn
      simp only [List.mem_cons, List.not_mem_nil, or_false] at hn
      rcases hn with rfl | rfl | rfl | rfl <;> omega) h
    exact readBid_good hf ⟨rfl, ht, hk⟩
  · rw [if_neg hk] at h
    simp at h
theorem ok_rec {r : Receipt} (h : r.ok = true) : (0 ≤ r.index ∧ r.index ≤ 1099511627776) ∧ (0 ≤ r.time ∧ r.time ≤ 1099511627776) ∧ (r.kind = 1 ∨ r.kind = 2) ∧ r.body.length ≤ 656 := by
  rw [Receipt.ok_is] at h
  simp only [decide_eq_true_eq] at h
  exact ⟨h.1.1, h.1.2, h.2.1, h.2.2⟩
theorem readReceipt_write {r : Receipt} (hp : r.prev.length = 32) (hh : r.hash.length = 32) (h : (writeReceipt r).2 = 0) : readReceipt (writeReceipt r).1 = (r, 0) := by
  unfold writeReceipt at *
  by_cases hk : r.ok = true
  · rw [if_pos hk] at *
    by_cases hl : r.link = r.hash
    · rw [if_pos hl] at *
      have hw := ok_rec hk
      have hf := fields_list (ns := [r.index, r.kind, r.time]) (rest := [r.body, r.prev, r.hash]) (k := 3) rfl (by
        intro n hn
        simp only [List.mem_cons, List.not_mem_nil, or_false] at hn
        rcases hn with rfl | rfl | rfl <;> omega) h
      exact readReceipt_good hf ⟨rfl, hp, hh, hk, hl⟩
    · rw [if_neg hl] at h
      simp at h
  · rw [if_neg hk] at h
    simp at h
theorem ok_item {i : Item} (h : i.ok = true) : (0 ≤ i.kind ∧ i.kind ≤ 3) ∧ (0 ≤ i.who ∧ i.who ≤ 64) ∧ (0 ≤ i.n ∧ i.n ≤ 1099511627776) ∧ i.text.length ≤ 65472 := by
  rw [Item.ok_is] at h
  simp only [decide_eq_true_eq] at h
  omega
theorem readItem_write {i : Item} (h : (writeItem i).2 = 0) : readItem (writeItem i).1 = (i, 0) := by
  unfold writeItem at *
  by_cases hk : i.ok = true
  · rw [if_pos hk] at *
    have hw := ok_item hk
    have hf := fields_list (ns := [i.kind, i.who, i.n]) (rest := [i.text]) (k := 3) rfl (by
      intro n hn
      simp only [List.mem_cons, List.not_mem_nil, or_false] at hn
      rcases hn with rfl | rfl | rfl <;> omega) h
    exact readItem_good hf ⟨rfl, hk⟩
  · rw [if_neg hk] at h
    simp at h
theorem part_laid {p : Part} (h : p.ok = true) : part p.laid = some p := by
  obtain ⟨d, t⟩ := p
  unfold Part.ok at h
  unfold part Part.laid
  cases d with
  | true =>
    simp only [if_true, decide_eq_true_eq] at h
    subst h
    rfl
  | false =>
    simp only [Bool.false_eq_true, if_false, decide_eq_true_eq] at h
    simp only [Bool.false_eq_true, if_false]
    rw [if_neg (by simp), if_pos ⟨rfl, by simp, by simp only [List.length_cons]; omega⟩]
    rfl
theorem parts_laid : ∀ {ps : List Part}, ps.all Part.ok = true → parts (ps.map Part.laid) = some ps
  | [], _ => rfl
  | p :: ps, h => by
    simp only [List.all_cons, Bool.and_eq_true] at h
    unfold parts
    rw [List.map_cons, List.mapM_cons, part_laid h.1]
    have := parts_laid h.2
    unfold parts at this
    rw [this]
    rfl
theorem ok_batch {b : Batch} (h : (writeBatch b).2 = 0) : nums [b.seq, b.first, b.before] = true ∧ b.parts.length ≤ 512 ∧ b.parts.all Part.ok = true ∧ writeBatch b = Oct.list ([num b.seq, num b.first, num b.before] ++ b.parts.map Part.laid) := by
  unfold writeBatch at *
  split
  · rename_i h1
    simp only [Bool.and_eq_true, decide_eq_true_eq] at h1
    exact ⟨h1.1.1, h1.1.2, h1.2, rfl⟩
  · rename_i h1; rw [if_neg h1] at h; simp at h
theorem readBatch_write {b : Batch} (h : (writeBatch b).2 = 0) : readBatch (writeBatch b).1 = (b, 0) := by
  obtain ⟨h1, h2, h3, h4⟩ := ok_batch h
  rw [h4] at h ⊢
  have h1' := h1
  rw [nums3] at h1'
  simp only [decide_eq_true_eq] at h1'
  have hf := fields_list (ns := [b.seq, b.first, b.before]) (rest := b.parts.map Part.laid) (k := 3) rfl (by
    intro n hn
    simp only [List.mem_cons, List.not_mem_nil, or_false] at hn
    rcases hn with rfl | rfl | rfl <;> omega) h
  unfold readBatch
  have hf' : fields (Oct.list ([num b.seq, num b.first, num b.before] ++ b.parts.map Part.laid)).1 3 = some ([b.seq, b.first, b.before], b.parts.map Part.laid) := hf
  rw [hf']
  simp only
  rw [if_pos (by rw [h1]; simpa using h2), parts_laid h3]
  rfl
/-! ### What is read is written as it was -/
theorem num_okn {t : List UInt8} (h : okn t = true) : num (wn t).1 = t := by
  unfold okn wn at h
  simp only [decide_eq_true_eq] at h
  by_cases h0 : (Oct.rdn t 0).2.2 = 0
  · have hb := Oct.rdn_bounds h0
    by_cases h1 : (Oct.rdn t 0).2.1 < t.length
    · rw [if_neg (by omega), if_pos h1] at h
      simp at h
    · have hn := (Oct.number_back h0).1
      rw [wn_good h0 (by omega)]
      unfold num
      rw [hn]
      simp only [Int.toNat_zero, List.drop_zero, Nat.sub_zero]
      rw [show (Oct.rdn t 0).2.1.toNat = t.length by omega, List.take_length]
  · rw [if_pos h0] at h
    exact absurd h h0
theorem fields_back {s : List UInt8} {k : Nat} {ns : List Int} {l : List (List UInt8)} (h : fields s k = some (ns, l)) : Oct.list (ns.map num ++ l) = (s, 0) ∧ ns.length = k ∧ (∀ n ∈ ns, 0 ≤ n ∧ n ≤ 9223372036854775807) := by
  unfold fields at h
  split at h
  · cases h
  · rename_i hw
    have hw := Decidable.not_not.1 hw
    unfold first at h
    split at h
    · cases h
    · rename_i hk
      split at h
      · rename_i ha
        simp only [Option.map_some, Option.some.injEq, Prod.mk.injEq] at h
        obtain ⟨rfl, rfl⟩ := h
        refine ⟨?_, by rw [List.length_map, List.length_take]; omega, ?_⟩
        · rw [List.map_map]
          have e : ((whole s).1.take k).map (num ∘ fun t => (wn t).1) = (whole s).1.take k := by
            conv => rhs; rw [← List.map_id ((whole s).1.take k)]
            refine List.map_congr_left fun t ht => ?_
            exact num_okn (List.all_eq_true.1 ha t ht)
          rw [e, List.take_append_drop]
          unfold whole at hw ⊢
          by_cases h0 : (Oct.rdl s 0).2.2 = 0
          · have hb := Oct.list_back h0
            rw [if_neg (by omega)] at hw ⊢
            by_cases h1 : (Oct.rdl s 0).2.1 < s.length
            · rw [if_pos h1] at hw
              simp at hw
            · rw [if_neg h1]
              simp only
              rw [hb.1]
              simp only [Int.toNat_zero, List.drop_zero, Nat.sub_zero]
              rw [show (Oct.rdl s 0).2.1.toNat = s.length by omega, List.take_length]
          · rw [if_pos h0] at hw
            exact absurd hw h0
        · intro n hn
          obtain ⟨t, _, rfl⟩ := List.mem_map.1 hn
          exact wn_ge t
      · cases h
theorem write_readItem {s : List UInt8} (h : (readItem s).2 = 0) : writeItem (readItem s).1 = (s, 0) := by
  unfold readItem at *
  cases hf : fields s 3 with
  | none => rw [hf] at h; simp at h
  | some p =>
    obtain ⟨ns, l⟩ := p
    rw [hf] at h
    simp only at h ⊢
    by_cases hc : l.length = 1 ∧ (itemOf ns l).ok = true
    · rw [if_pos hc]
      obtain ⟨hb, hn, _⟩ := fields_back hf
      obtain ⟨a, b, c, rfl⟩ := three hn
      unfold writeItem
      simp only
      rw [if_pos hc.2, ← hb]
      match l, hc.1 with
      | [t], _ => rfl
    · rw [if_neg hc] at h
      simp at h
theorem laid_part {t : List UInt8} {p : Part} (h : part t = some p) : p.laid = t ∧ p.ok = true := by
  unfold part at h
  split at h
  · rename_i h1
    simp only [Option.some.injEq] at h
    subst h h1
    exact ⟨rfl, rfl⟩
  · split at h
    · rename_i h1 h2
      simp only [Option.some.injEq] at h
      subst h
      obtain ⟨h3, h4, h5⟩ := h2
      match t, h3, h4, h5 with
      | x :: r, h3, _, h5 =>
        have : x = 1 := h3
        subst this
        refine ⟨rfl, ?_⟩
        unfold Part.ok
        simp only [Bool.false_eq_true, if_false, decide_eq_true_eq, List.drop_succ_cons, List.drop_zero]
        simp only [List.length_cons] at h5
        omega
    · cases h
theorem laid_parts : ∀ {l : List (List UInt8)} {ps : List Part}, parts l = some ps → ps.map Part.laid = l ∧ ps.all Part.ok = true
  | [], ps, h => by
    simp [parts] at h
    subst h
    exact ⟨rfl, rfl⟩
  | t :: l, ps, h => by
    unfold parts at h
    rw [List.mapM_cons] at h
    cases hp : part t with
    | none => rw [hp] at h; simp at h
    | some p =>
      cases hr : l.mapM part with
      | none => rw [hp, hr] at h; simp at h
      | some qs =>
        rw [hp, hr] at h
        simp at h
        subst h
        obtain ⟨h1, h2⟩ := laid_parts (l := l) (ps := qs) hr
        obtain ⟨h3, h4⟩ := laid_part hp
        exact ⟨by rw [List.map_cons, h3, h1], by rw [List.all_cons, h4, h2]; rfl⟩
theorem write_readBatch {s : List UInt8} (h : (readBatch s).2 = 0) : writeBatch (readBatch s).1 = (s, 0) := by
  unfold readBatch at *
  cases hf : fields s 3 with
  | none => rw [hf] at h; simp at h
  | some p =>
    obtain ⟨ns, l⟩ := p
    rw [hf] at h
    simp only at h ⊢
    split at h
    · rename_i hc
      rw [if_pos hc]
      cases hp : parts l with
      | none => rw [hp] at h; simp at h
      | some ps =>
        simp only
        obtain ⟨hb, hn, _⟩ := fields_back hf
        obtain ⟨a, b, c, rfl⟩ := three hn
        obtain ⟨h1, h2⟩ := laid_parts hp
        simp only [Bool.and_eq_true, decide_eq_true_eq] at hc
        have hl : ps.length = l.length := by rw [← h1, List.length_map]
        unfold writeBatch
        rw [if_pos]
        · rw [h1]
          exact hb
        · have h3 : nums [a, b, c] = true := hc.1
          simp only [List.getD_cons_zero, List.getD_cons_succ, h3, h2, Bool.true_and, Bool.and_true, decide_eq_true_eq]
          omega
    · simp at h
end Go.Note
