/- What is written is read as it was, and back. -/
import Derived.Test.YtnnhnnhdoipbaaaDoorNote
namespace Go.Note
theorem list_small {l : List (List UInt8)} (h1 : l.length ≤ 1024) (h2 : l.flatten.length ≤ 65536) : (Oct.list l).2 = 0 := by rw [Oct.list_ok (by omega) (by omega)]
theorem list_fits {l : List (List UInt8)} (h : (Oct.list l).2 = 0) : l.length ≤ 1024 ∧ l.flatten.length ≤ 65536 ∧ (Oct.list l).1 = Oct.listL l := by
  unfold Oct.list at *
  split
  · rename_i h1; rw [if_pos h1] at h; simp at h
  · exact ⟨by omega, by omega, rfl⟩
theorem whole_list {l : List (List UInt8)} (h : (Oct.list l).2 = 0) : whole (Oct.list l).1 = (l, 0) := by
  obtain ⟨h1, h2, h3⟩ := list_fits h
  rw [h3]
  have h4 := Oct.rdl_listL [] [] h1 h2
  simp only [List.nil_append, List.append_nil, List.length_nil, Nat.zero_add, Int.ofNat_eq_natCast] at h4
  have h5 : Oct.rdl (Oct.listL l) 0 = _ := h4
  rw [whole_ok (by rw [h5]) (by rw [h5]), h5]
theorem wn_num {n : Int} (h0 : 0 ≤ n) (h1 : n ≤ 9223372036854775807) : wn (num n) = (n, 0) := by
  obtain ⟨m, rfl⟩ := Int.eq_ofNat_of_zero_le h0
  have e : num (m : Int) = Oct.numL m := by unfold num; rw [Oct.number_nat]
  rw [e]
  have h4 := Oct.rdn_numL [] [] (m := m) (by omega)
  simp only [List.nil_append, List.append_nil, List.length_nil, Nat.zero_add] at h4
  have h5 : Oct.rdn (Oct.numL m) 0 = _ := h4
  rw [wn_good (by rw [h5]) (by rw [h5]), h5]
theorem num_len {n : Int} (h1 : n ≤ 9223372036854775807) : (num n).length ≤ 9 := Oct.number_len h1
theorem first_nums : ∀ (ns : List Int) (rest : List (List UInt8)), (∀ n ∈ ns, 0 ≤ n ∧ n ≤ 9223372036854775807) → first (ns.map num ++ rest) ns.length = some ns := by
  intro ns rest h
  have e : (ns.map num ++ rest).take ns.length = ns.map num := List.take_left' (by simp)
  unfold first
  rw [if_neg (by simp), e, if_pos]
  · rw [List.map_map]
    congr 1
    conv => rhs; rw [← List.map_id ns]
    refine List.map_congr_left fun n hn => ?_
    show (wn (num n)).1 = n
    rw [wn_num (h n hn).1 (h n hn).2]
  · rw [List.all_eq_true]
    intro t ht
    obtain ⟨n, hn, rfl⟩ := List.mem_map.1 ht
    unfold okn
    rw [wn_num (h n hn).1 (h n hn).2]
    rfl
theorem fields_list {ns : List Int} {rest : List (List UInt8)} {k : Nat} (hk : ns.length = k) (h : ∀ n ∈ ns, 0 ≤ n ∧ n ≤ 9223372036854775807) (hl : (Oct.list (ns.map num ++ rest)).2 = 0) : fields (Oct.list (ns.map num ++ rest)).1 k = some (ns, rest) := by
  subst hk
  have hw := whole_list hl
  rw [fields_some (by rw [hw]; simp) (by rw [hw]; exact first_nums ns rest h), hw]
  simp only
  rw [List.drop_left' (by simp)]
theorem readBid_write {b : Bid} (ht : b.tag.length = 32) (h : (writeBid b).2 = 0) : readBid (writeBid b).1 = (b, 0) := by
  unfold writeBid at *
  by_cases hk : b.ok = true
  · rw [if_pos hk] at *
    have hw := ok_who hk
    have hf := fields_list (ns := [b.round, b.who, b.amount, b.salt]) (rest := [b.tag]) (k := 4) rfl (by
      intro n hn
      simp only [List.mem_cons, List.not_mem_nil, or_false] at hn
      rcases hn with rfl | rfl | rfl | rfl <;> omega) h
    exact readBid_good hf ⟨rfl, ht, hk⟩
  · rw [if_neg hk] at h
    simp at h
theorem ok_rec {r : Receipt} (h : r.ok = true) : (0 ≤ r.index ∧ r.index ≤ 1099511627776) ∧ (0 ≤ r.time ∧ r.time ≤ 1099511627776) ∧ (r.kind = 1 ∨ r.kind = 2) ∧ r.body.length ≤ 656 := by
  rw [Receipt.ok_is] at h
  simp only [decide_eq_true_eq] at h
  exact ⟨h.1.1, h.1.2, h.2.1, h.2.2⟩
theorem readReceipt_write {r : Receipt} (hp : r.prev.length = 32) (hh : r.hash.length = 32) (h : (writeReceipt r).2 = 0) : readReceipt (writeReceipt r).1 = (r, 0) := by
  unfold writeReceipt at *
  by_cases hk : r.ok = true
  · rw [if_pos hk] at *
    by_cases hl : r.link = r.hash
    · rw [if_pos hl] at *
      have hw := ok_rec hk
      have hf := fields_list (ns := [r.index, r.kind, r.time]) (rest := [r.body, r.prev, r.hash]) (k := 3) rfl (by
        intro n hn
        simp only [List.mem_cons, List.not_mem_nil, or_false] at hn
        rcases hn with rfl | rfl | rfl <;> omega) h
      exact readReceipt_good hf ⟨rfl, hp, hh, hk, hl⟩
    · rw [if_neg hl] at h
      simp at h
  · rw [if_neg hk] at h
    simp at h
theorem writeReceipt_link {prev : List UInt8} {index kind time : Int} {body : List UInt8} (hp : prev.length = 32) (h : (link prev index kind time body).2 = 0) : (writeReceipt (link prev index kind time body).1).2 = 0 := by
  unfold link at *
  split
  · rename_i hk
    have hw := ok_rec hk
    unfold writeReceipt
    dsimp only
    rw [if_pos (show (⟨index, kind, time, body, prev, (⟨index, kind, time, body, prev, Z⟩ : Receipt).link⟩ : Receipt).ok = true from hk), if_pos (show (⟨index, kind, time, body, prev, (⟨index, kind, time, body, prev, Z⟩ : Receipt).link⟩ : Receipt).link = (⟨index, kind, time, body, prev, Z⟩ : Receipt).link from rfl)]
    refine list_small (by simp) ?_
    simp only [List.flatten_cons, List.flatten_nil, List.length_append, List.length_nil, Nat.add_zero, link_len, hp]
    have h1 := num_len (n := index) (by have := hw.1; simp only at this; omega)
    have h2 := num_len (n := kind) (by have := hw.2.2.1; simp only at this; omega)
    have h3 := num_len (n := time) (by have := hw.2.1; simp only at this; omega)
    have h4 := hw.2.2.2
    simp only at h4
    omega
  · rename_i hk; rw [if_neg hk] at h; simp at h
/-! ### What is read is written as it was -/
end Go.Note
