/- Numbers, texts and lists as bytes: there and back. -/
import Derived.Test.YtnnhnnhdoipbaaaDoorOct
namespace Go.Oct
theorem val_cons (b : UInt8) (r : List UInt8) : val (b :: r) = b.toNat * 256 ^ r.length + val r := by
  refine snoc_ind (P := fun r => val (b :: r) = b.toNat * 256 ^ r.length + val r) (by simp [val]) (fun l c ih => ?_) r
  rw [← List.cons_append, val_snoc, val_snoc, ih, List.length_append, List.length_singleton, Nat.pow_succ, ← Nat.mul_assoc, Nat.add_mul]
  omega
theorem lows_add (k c m : Nat) : lows k (m + c * 256 ^ k) = lows k m := by
  induction k generalizing c with
  | zero => rfl
  | succ k ih =>
    have hp : 0 < 256 ^ k := Nat.pow_pos (by omega)
    have e : m + c * 256 ^ (k + 1) = m + (c * 256) * 256 ^ k := by rw [Nat.pow_succ, Nat.mul_comm (256 ^ k) 256, Nat.mul_assoc]
    simp only [lows]
    rw [e, ih]
    congr 1
    rw [Nat.add_mul_div_right _ _ hp]
    apply UInt8.toNat_inj.1
    rw [UInt8.toNat_ofNat', UInt8.toNat_ofNat']
    omega
theorem lows_val : ∀ (l : List UInt8), lows l.length (val l) = l
  | [] => rfl
  | b :: r => by
    have hp : 0 < 256 ^ r.length := Nat.pow_pos (by omega)
    have hlt := val_lt r
    rw [val_cons, List.length_cons]
    simp only [lows]
    rw [Nat.add_comm, lows_add, lows_val r, Nat.add_mul_div_right _ _ hp, Nat.div_eq_of_lt hlt, Nat.zero_add]
    congr 1
    apply UInt8.toNat_inj.1
    rw [UInt8.toNat_ofNat']
    have := b.toNat_lt
    omega
theorem val_lows (k m : Nat) : val (lows k m) = m % 256 ^ k := by
  induction k with
  | zero => simp [lows, val, Nat.mod_one]
  | succ k ih =>
    simp only [lows]
    have h := @Nat.mod_mul (256 ^ k) 256 m
    have h0 : 256 ^ (k + 1) = 256 ^ k * 256 := Nat.pow_succ ..
    rw [val_cons, ih, lows_length, UInt8.toNat_ofNat', h0, h]
    show m / 256 ^ k % 256 * 256 ^ k + m % 256 ^ k = _
    rw [Nat.mul_comm (256 ^ k), Nat.add_comm]
theorem val_lows_self (m : Nat) : val (lows (blen m) m) = m := by rw [val_lows, Nat.mod_eq_of_lt (blen_lt m)]

theorem getD_at {α : Type} (a b : List α) (i : Nat) (d : α) : (a ++ b).getD (a.length + i) d = b.getD i d := by
  simp [List.getD_eq_getElem?_getD, List.getElem?_append_right]
theorem getD_at0 {α : Type} (a b : List α) (d : α) : (a ++ b).getD a.length d = b.getD 0 d := getD_at a b 0 d
theorem drop_at {α : Type} (a b : List α) (i : Nat) : (a ++ b).drop (a.length + i) = b.drop i := by
  rw [List.drop_append, List.drop_eq_nil_of_le (by omega), List.nil_append]
  congr 1
  omega

/-- A number that was laid is read, wherever it stands. -/
theorem good_numL (ahead rest : List UInt8) {m : Nat} (hm : m ≤ 9223372036854775807) : Good (ahead ++ (numL m ++ rest)) ahead.length (blen m) := by
  have h8 := blen_le8 hm
  have hl := numL_length m
  have e0 : ((ahead ++ (numL m ++ rest)).getD ahead.length 0).toNat = blen m := by
    rw [getD_at0]
    simp only [numL, List.cons_append, List.getD_cons_zero, UInt8.toNat_ofNat']
    omega
  refine ⟨by simp only [List.length_append]; omega, e0, h8, by simp only [List.length_append]; omega, ?_⟩
  rintro ⟨hk, h⟩
  have hm0 : 0 < m := by
    rcases Nat.eq_zero_or_pos m with h0 | h0
    · subst h0; simp [blen_zero] at hk
    · exact h0
  have hge := blen_ge hm0
  have hlt := blen_lt m
  obtain ⟨j, hj⟩ : ∃ j, blen m = j + 1 := ⟨blen m - 1, by omega⟩
  have hp : 0 < 256 ^ j := Nat.pow_pos (by omega)
  have e1 : (ahead ++ (numL m ++ rest)).getD (ahead.length + 1) 0 = UInt8.ofNat (m / 256 ^ j) := by
    rw [getD_at]
    simp only [numL, hj, lows, List.cons_append]
    rfl
  rw [hj] at hge hlt
  simp only [Nat.add_sub_cancel] at hge
  have hd1 : 1 ≤ m / 256 ^ j := (Nat.le_div_iff_mul_le hp).2 (by omega)
  have hd2 : m / 256 ^ j < 256 := by
    rw [Nat.div_lt_iff_lt_mul hp]
    rw [Nat.pow_succ] at hlt
    omega
  have e2 : (UInt8.ofNat (m / 256 ^ j)).toNat = m / 256 ^ j := by rw [UInt8.toNat_ofNat']; omega
  rw [e1, zero_toNat, e2] at h
  rcases h with h | ⟨h9, h⟩
  · omega
  · have ej : j = 7 := by omega
    subst ej
    obtain ⟨_, _, _, _, _, _, e7, _⟩ := pow_table
    rw [e7] at h
    omega
theorem rdn_numL (ahead rest : List UInt8) {m : Nat} (hm : m ≤ 9223372036854775807) : rdn (ahead ++ (numL m ++ rest)) (ahead.length : Int) = ((m : Int), ((ahead.length + (numL m).length : Nat) : Int), 0) := by
  rw [rdn_good (good_numL ahead rest hm)]
  have e : ((ahead ++ (numL m ++ rest)).drop (ahead.length + 1)).take (blen m) = lows (blen m) m := by
    rw [drop_at]
    simp only [numL, List.cons_append, List.drop_succ_cons, List.drop_zero]
    rw [List.take_left' (lows_length _ _)]
  rw [e, val_lows_self, numL_length]
  congr 2
  omega
theorem rdt_textL (ahead rest : List UInt8) {t : List UInt8} (ht : t.length ≤ 65536) : rdt (ahead ++ (textL t ++ rest)) (ahead.length : Int) = (t, ((ahead.length + (textL t).length : Nat) : Int), 0) := by
  have h := rdn_numL ahead (t ++ rest) (m := t.length) (by omega)
  have e : ahead ++ (textL t ++ rest) = ahead ++ (numL t.length ++ (t ++ rest)) := by simp [textL]
  rw [e]
  have hl : (textL t).length = (numL t.length).length + t.length := by simp [textL]
  rw [rdt_good (by rw [h]) (by rw [h]; simp only; omega) (by rw [h]; simp only [List.length_append]; omega), h]
  simp only [Int.toNat_natCast]
  rw [hl]
  congr 1
  · rw [drop_at, List.drop_left' rfl, List.take_left' rfl]
  · congr 1
    omega
theorem rdls_texts (l : List (List UInt8)) : ∀ (ahead rest : List UInt8) (left : Int) (acc : List (List UInt8)), (l.flatten.length : Int) ≤ left → left ≤ 65536 →
    rdls (ahead ++ ((l.map textL).flatten ++ rest)) l.length (ahead.length : Int) left acc = (acc ++ l, ((ahead.length + (l.map textL).flatten.length : Nat) : Int), 0) := by
  induction l with
  | nil => intro ahead rest left acc _ _; simp [rdls]
  | cons t l ih =>
    intro ahead rest left acc h1 h2
    simp only [List.flatten_cons, List.length_append] at h1
    have hr := rdt_textL ahead ((l.map textL).flatten ++ rest) (t := t) (by omega)
    simp only [List.map_cons, List.flatten_cons, List.append_assoc, List.length_cons] at hr ⊢
    rw [rdls_more (by rw [hr]) (by rw [hr]; simp only; omega), hr]
    have e : ahead ++ (textL t ++ ((l.map textL).flatten ++ rest)) = (ahead ++ textL t) ++ ((l.map textL).flatten ++ rest) := by simp
    rw [e]
    have := ih (ahead ++ textL t) rest (left - t.length) (acc ++ [t]) (by omega) (by omega)
    simp only [List.length_append] at this
    rw [this]
    simp only [List.append_assoc, List.singleton_append, List.length_append]
    congr 2
    omega
theorem rdl_listL (ahead rest : List UInt8) {l : List (List UInt8)} (h1 : l.length ≤ 1024) (h2 : l.flatten.length ≤ 65536) : rdl (ahead ++ (listL l ++ rest)) (ahead.length : Int) = (l, ((ahead.length + (listL l).length : Nat) : Int), 0) := by
  have e : ahead ++ (listL l ++ rest) = ahead ++ (numL l.length ++ ((l.map textL).flatten ++ rest)) := by simp [listL]
  have h := rdn_numL ahead ((l.map textL).flatten ++ rest) (m := l.length) (by omega)
  rw [e, rdl_go (by rw [h]) (by rw [h]; simp only; omega), h]
  simp only [Int.toNat_natCast]
  have e2 : ahead ++ (numL l.length ++ ((l.map textL).flatten ++ rest)) = (ahead ++ numL l.length) ++ ((l.map textL).flatten ++ rest) := by simp
  have := rdls_texts l (ahead ++ numL l.length) rest 65536 [] (by omega) (by omega)
  simp only [List.length_append] at this
  rw [e2, this]
  simp only [List.nil_append, listL, List.length_append]
  congr 2
  omega

/-! ### What was read is laid as it was -/
theorem slice_split {α : Type} (s : List α) (p a b : Nat) : (s.drop p).take (a + b) = (s.drop p).take a ++ (s.drop (p + a)).take b := by
  rw [List.take_add, List.drop_drop]
theorem numL_good {s : List UInt8} {p k : Nat} (h : Good s p k) : numL (val ((s.drop (p + 1)).take k)) = (s.drop p).take (k + 1) := by
  obtain ⟨h1, h2, h3, h4, h5⟩ := h
  have hl : ((s.drop (p + 1)).take k).length = k := by simp; omega
  have hb : blen (val ((s.drop (p + 1)).take k)) = k := by
    refine blen_eq k _ (val_take_lt _ _ _) ?_
    rcases Nat.eq_zero_or_pos k with h0 | h0
    · exact .inl h0
    · refine .inr ?_
      have hlt : p + 1 < s.length := by omega
      obtain ⟨j, rfl⟩ : ∃ j, k = j + 1 := ⟨k - 1, by omega⟩
      have e : (s.drop (p + 1)).take (j + 1) = s.getD (p + 1) 0 :: (s.drop (p + 2)).take j := by
        rw [List.drop_eq_getElem_cons hlt, List.take_succ_cons, getD_eq 0 hlt]
      rw [e]
      have h6 := val_cons_ge (s.getD (p + 1) 0) ((s.drop (p + 2)).take j)
      have h7 : ((s.drop (p + 2)).take j).length = j := by simp; omega
      rw [h7] at h6
      have h8 : 1 ≤ (s.getD (p + 1) 0).toNat := by
        exact Nat.pos_of_ne_zero fun e => h5 ⟨by omega, .inl ((zero_toNat _).2 e)⟩
      have h9 := Nat.mul_le_mul_right (256 ^ j) h8
      rw [Nat.one_mul] at h9
      exact Nat.le_trans h9 h6
  unfold numL
  rw [hb]
  have hlv := lows_val ((s.drop (p + 1)).take k)
  rw [hl] at hlv
  rw [hlv, List.drop_eq_getElem_cons h1, List.take_succ_cons]
  congr 1
  rw [← getD_eq 0 h1, ← h2]
  apply UInt8.toNat_inj.1
  rw [UInt8.toNat_ofNat']
  have := (s.getD p 0).toNat_lt
  omega
theorem textL_back {s : List UInt8} {p : Nat} (h : (rdt s (p : Int)).2.2 = 0) : ∃ q : Nat, (rdt s (p : Int)).2.1 = (q : Int) ∧ p < q ∧ q ≤ s.length ∧ textL (rdt s (p : Int)).1 = (s.drop p).take (q - p) := by
  by_cases h1 : (rdn s (p : Int)).2.2 = 0
  · have hb := rdn_bounds h1
    by_cases h2 : 65536 < (rdn s (p : Int)).1
    · rw [rdt_big h1 h2] at h; simp at h
    · by_cases h3 : (s.length : Int) < (rdn s (p : Int)).2.1 + (rdn s (p : Int)).1
      · rw [rdt_short h1 h2 h3] at h; simp at h
      · rw [rdt_good h1 h2 h3]
        obtain ⟨q, k, hq, hg⟩ := rdn_ok h1
        have eq' : p = q := by omega
        subst eq'
        have hgd := rdn_good hg
        have hN := numL_good hg
        have hfit := hg.fit
        rw [hgd] at h2 h3 hb ⊢
        simp only at h2 h3 hb ⊢
        simp only [Int.toNat_natCast]
        generalize hn : val ((s.drop (p + 1)).take k) = n at *
        refine ⟨p + 1 + k + n, by omega, by omega, by omega, ?_⟩
        have hl : ((s.drop (p + 1 + k)).take n).length = n := by simp; omega
        unfold textL
        rw [hl, hN]
        have e : p + 1 + k + n - p = (k + 1) + n := by omega
        rw [e, slice_split s p (k + 1) n, show p + (k + 1) = p + 1 + k by omega]
  · rw [rdt_err h1] at h; exact absurd h h1
theorem rdls_back (s : List UInt8) : ∀ (n p : Nat) (left : Int) (acc l : List (List UInt8)) (q : Int), p ≤ s.length → 0 ≤ left → rdls s n (p : Int) left acc = (l, q, 0) →
    ∃ (l2 : List (List UInt8)) (r : Nat), l = acc ++ l2 ∧ q = (r : Int) ∧ p ≤ r ∧ r ≤ s.length ∧ l2.length = n ∧ (l2.flatten.length : Int) ≤ left ∧ (l2.map textL).flatten = (s.drop p).take (r - p)
  | 0, p, left, acc, l, q, hp, h0, h => by
    simp only [rdls, Prod.mk.injEq] at h
    obtain ⟨rfl, rfl, _⟩ := h
    exact ⟨[], p, by simp, rfl, Nat.le_refl _, hp, rfl, by simpa using h0, by simp⟩
  | n + 1, p, left, acc, l, q, hp, h0, h => by
    by_cases h1 : (rdt s (p : Int)).2.2 = 0
    · by_cases h2 : left < (rdt s (p : Int)).1.length
      · rw [rdls_big h1 h2] at h; simp at h
      · rw [rdls_more h1 h2] at h
        obtain ⟨q2, e2, hlt, hle, hT⟩ := textL_back h1
        rw [e2] at h
        obtain ⟨l2, r, e3, e4, hr1, hr2, hl2, hf, hT2⟩ := rdls_back s n q2 _ _ l q hle (by omega) h
        refine ⟨(rdt s (p : Int)).1 :: l2, r, by rw [e3]; simp, e4, by omega, hr2, by simp [hl2], ?_, ?_⟩
        · simp only [List.flatten_cons, List.length_append]; omega
        · simp only [List.map_cons, List.flatten_cons]
          rw [hT, hT2]
          have e5 : r - p = (q2 - p) + (r - q2) := by omega
          rw [e5, slice_split, show p + (q2 - p) = q2 by omega]
    · rw [rdls_err h1] at h
      simp only [Prod.mk.injEq] at h
      exact absurd h.2.2 h1
theorem list_back {s : List UInt8} {p : Int} (h : (rdl s p).2.2 = 0) : list (rdl s p).1 = ((s.drop p.toNat).take ((rdl s p).2.1.toNat - p.toNat), 0) ∧ p ≤ (rdl s p).2.1 ∧ (rdl s p).2.1 ≤ s.length ∧ 0 ≤ p ∧ (rdl s p).1.length ≤ 1024 := by
  by_cases h1 : (rdn s p).2.2 = 0
  · by_cases h2 : 1024 < (rdn s p).1
    · rw [rdl_big h1 h2] at h; simp at h
    · have hb := rdn_bounds h1
      rw [rdl_go h1 h2] at h ⊢
      obtain ⟨q, k, rfl, hg⟩ := rdn_ok h1
      have hgd := rdn_good hg
      have hN := numL_good hg
      have hfit := hg.fit
      rw [hgd] at h h2 hb ⊢
      simp only at h h2 hb ⊢
      simp only [Int.toNat_natCast] at h ⊢
      generalize hn : val ((s.drop (q + 1)).take k) = n at *
      generalize hr : rdls s n ((q + 1 + k : Nat) : Int) 65536 [] = r at *
      obtain ⟨l, e, z⟩ := r
      simp only at h
      subst h
      obtain ⟨l2, r, e3, e4, hr1, hr2, hl2, hf, hT⟩ := rdls_back s n (q + 1 + k) 65536 [] l e hfit (by omega) hr
      simp only [List.nil_append] at e3
      subst e3
      simp only
      have e6 : ¬ 1024 < l.length := by omega
      refine ⟨?_, by omega, by omega, by omega, by omega⟩
      rw [list_ok e6 (by omega)]
      simp only [Prod.mk.injEq, and_true]
      unfold listL
      rw [hl2, hN, hT, e4]
      simp only [Int.toNat_natCast]
      have e5 : r - q = (k + 1) + (r - (q + 1 + k)) := by omega
      rw [e5, slice_split s q (k + 1) _, show q + (k + 1) = q + 1 + k by omega]
  · rw [rdl_err h1] at h; exact absurd h h1
theorem rdls_nil (s : List UInt8) : ∀ (n : Nat) (p left : Int) (acc : List (List UInt8)), (rdls s n p left acc).2.2 ≠ 0 → rdls s n p left acc = ([], 0, (rdls s n p left acc).2.2)
  | 0, p, left, acc, h => by simp [rdls] at h
  | n + 1, p, left, acc, h => by
    by_cases h1 : (rdt s p).2.2 = 0
    · by_cases h2 : left < (rdt s p).1.length
      · rw [rdls_big h1 h2]
      · rw [rdls_more h1 h2] at h ⊢
        exact rdls_nil s n _ _ _ h
    · rw [rdls_err h1]
theorem rdl_nil {s : List UInt8} {p : Int} (h : (rdl s p).2.2 ≠ 0) : rdl s p = ([], 0, (rdl s p).2.2) := by
  by_cases h1 : (rdn s p).2.2 = 0
  · by_cases h2 : 1024 < (rdn s p).1
    · rw [rdl_big h1 h2]
    · rw [rdl_go h1 h2] at h ⊢
      exact rdls_nil _ _ _ _ _ h
  · rw [rdl_err h1]

/-! ### What stands behind changes nothing -/
theorem rdl_len {s : List UInt8} {p : Int} : (rdl s p).1.length ≤ 1024 := by
  by_cases h : (rdl s p).2.2 = 0
  · exact (list_back h).2.2.2.2
  · rw [rdl_nil h]; simp
theorem number_len {n : Int} (hn : n ≤ 9223372036854775807) : (number n).1.length ≤ 9 := by
  unfold number
  split
  · simp
  · exact numL_le (by omega)
theorem list_len {l : List (List UInt8)} : (list l).1.length ≤ 80000 := by
  unfold list
  split
  · simp
  · exact listL_le (by omega) (by omega)
end Go.Oct
