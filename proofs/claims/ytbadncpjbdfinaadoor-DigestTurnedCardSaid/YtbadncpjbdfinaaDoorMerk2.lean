/- Proofs in lists, in plain Lean. -/
import Derived.Test.YtbadncpjbdfinaaDoorMerk
namespace Go.Merk
theorem proofF_more : ∀ (f g : Nat) (l : List (List UInt8)) (i : Nat), l.length ≤ f → l.length ≤ g → proofF f l i = proofF g l i
  | 0, 0, _, _, _, _ => rfl
  | 0, g + 1, l, i, h, _ => by rw [proofF, proofF, if_pos (by omega)]
  | f + 1, 0, l, i, _, h => by rw [proofF, proofF, if_pos (by omega)]
  | f + 1, g + 1, l, i, hf, hg => by
    rw [proofF, proofF]
    split
    · rfl
    · have hl := half_lt (n := l.length) (by omega)
      rw [proofF_more f g (l.take _) i (by rw [List.length_take]; omega) (by rw [List.length_take]; omega), proofF_more f g (l.drop _) _ (by rw [List.length_drop]; omega) (by rw [List.length_drop]; omega)]
theorem proof_small {l : List (List UInt8)} {i : Nat} (h : l.length < 2) : proof l i = [] := by
  unfold proof
  match l.length, h with
  | 0, _ => rfl
  | 1, h => rw [proofF, if_pos (by assumption)]
theorem proof_step {l : List (List UInt8)} {i : Nat} (h : 2 ≤ l.length) : proof l i = if i < half l.length then proof (l.take (half l.length)) i ++ [root (l.drop (half l.length))] else proof (l.drop (half l.length)) (i - half l.length) ++ [root (l.take (half l.length))] := by
  have hl := half_lt h
  obtain ⟨f, hf⟩ : ∃ f, l.length = f + 1 := ⟨l.length - 1, by omega⟩
  have e : proof l i = proofF (f + 1) l i := by unfold proof; rw [hf]
  rw [e, proofF, if_neg (by omega)]
  unfold proof
  rw [proofF_more f _ (l.take _) i (by rw [List.length_take]; omega) (Nat.le_refl _), proofF_more f _ (l.drop _) _ (by rw [List.length_drop]; omega) (Nat.le_refl _)]
theorem proof_left {l : List (List UInt8)} {i : Nat} (h : 2 ≤ l.length) (hi : i < half l.length) : proof l i = proof (l.take (half l.length)) i ++ [root (l.drop (half l.length))] := by rw [proof_step h, if_pos hi]
theorem proof_right {l : List (List UInt8)} {i : Nat} (h : 2 ≤ l.length) (hi : ¬ i < half l.length) : proof l i = proof (l.drop (half l.length)) (i - half l.length) ++ [root (l.take (half l.length))] := by rw [proof_step h, if_neg hi]
theorem pathF_more : ∀ (f g n i : Nat), n ≤ f → n ≤ g → pathF f n i = pathF g n i
  | 0, 0, _, _, _, _ => rfl
  | 0, g + 1, n, i, h, _ => by rw [pathF, pathF, if_pos (by omega)]
  | f + 1, 0, n, i, _, h => by rw [pathF, pathF, if_pos (by omega)]
  | f + 1, g + 1, n, i, hf, hg => by
    rw [pathF, pathF]
    split
    · rfl
    · have hl := half_lt (n := n) (by omega)
      rw [pathF_more f g (half n) i (by omega) (by omega), pathF_more f g (n - half n) _ (by omega) (by omega)]
theorem path_small {n i : Nat} (h : n < 2) : path n i = [] := by
  unfold path
  match n, h with
  | 0, _ => rfl
  | 1, h => rw [pathF, if_pos (by assumption)]
theorem path_step {n i : Nat} (h : 2 ≤ n) : path n i = decide (i < half n) :: (if i < half n then path (half n) i else path (n - half n) (i - half n)) := by
  have hl := half_lt h
  obtain ⟨f, hf⟩ : ∃ f, n = f + 1 := ⟨n - 1, by omega⟩
  have e : path n i = pathF (f + 1) n i := by unfold path; rw [hf]
  rw [e, pathF, if_neg (by omega)]
  unfold path
  rw [pathF_more f _ (half n) i (by omega) (Nat.le_refl _), pathF_more f _ (n - half n) _ (by omega) (Nat.le_refl _)]
theorem proof_length : ∀ (N : Nat) (l : List (List UInt8)) (i : Nat), l.length = N → (proof l i).length = (path l.length i).length := by
  intro N
  induction N using Nat.strongRecOn with
  | _ N ih =>
    intro l i hN
    by_cases h : l.length < 2
    · rw [proof_small h, path_small h]; rfl
    · have hl := half_lt (n := l.length) (by omega)
      rw [path_step (by omega)]
      by_cases hi : i < half l.length
      · rw [proof_left (by omega) hi, if_pos hi]
        have := ih (half l.length) (by omega) (l.take (half l.length)) i (by rw [List.length_take]; omega)
        rw [List.length_take, Nat.min_eq_left (by omega)] at this
        simp [this]
      · rw [proof_right (by omega) hi, if_neg hi]
        have := ih (l.length - half l.length) (by omega) (l.drop (half l.length)) (i - half l.length) (by rw [List.length_drop])
        rw [List.length_drop] at this
        simp [this]
theorem climb_snoc : ∀ (bs : List Bool) (ps : List (List UInt8)) (b : Bool) (p h : List UInt8), bs.length = ps.length → climb h (bs ++ [b]) (ps ++ [p]) = if b then Sha.sum (1 :: (climb h bs ps ++ p)) else Sha.sum (1 :: (p ++ climb h bs ps))
  | [], [], b, p, h, _ => by cases b <;> rfl
  | b' :: bs, p' :: ps, b, p, h, e => by
    have := climb_snoc bs ps b p (if b' then Sha.sum (1 :: (h ++ p')) else Sha.sum (1 :: (p' ++ h))) (by simpa using e)
    simpa [climb] using this
  | [], _ :: _, _, _, _, e => by simp at e
  | _ :: _, [], _, _, _, e => by simp at e
/-- A text's proof leads to the list's root. -/
theorem climb_root : ∀ (N : Nat) (l : List (List UInt8)) (i : Nat), l.length = N → i < l.length → climb (Sha.sum (0 :: l.getD i [])) (path l.length i).reverse (proof l i) = root l := by
  intro N
  induction N using Nat.strongRecOn with
  | _ N ih =>
    intro l i hN hi
    by_cases h : l.length < 2
    · rw [proof_small h, path_small h]
      match l, h, hi with
      | [x], _, hi =>
        have : i = 0 := by simpa using hi
        subst this
        rfl
    · have hl := half_lt (n := l.length) (by omega)
      rw [path_step (by omega), root_more (l := l) (by omega)]
      by_cases hi' : i < half l.length
      · have h1 := ih (half l.length) (by omega) (l.take (half l.length)) i (by rw [List.length_take]; omega) (by rw [List.length_take]; omega)
        have h2 := proof_length _ (l.take (half l.length)) i rfl
        rw [List.length_take, Nat.min_eq_left (by omega)] at h1 h2
        have e : (l.take (half l.length)).getD i [] = l.getD i [] := by simp [List.getD_eq_getElem?_getD, List.getElem?_take, hi']
        rw [e] at h1
        rw [proof_left (by omega) hi', if_pos hi', List.reverse_cons, climb_snoc _ _ _ _ _ (by rw [List.length_reverse, h2]), h1]
        simp [hi']
      · have h1 := ih (l.length - half l.length) (by omega) (l.drop (half l.length)) (i - half l.length) (by rw [List.length_drop]) (by rw [List.length_drop]; omega)
        have h2 := proof_length _ (l.drop (half l.length)) (i - half l.length) rfl
        rw [List.length_drop] at h1 h2
        have e : (l.drop (half l.length)).getD (i - half l.length) [] = l.getD i [] := by simp [List.getD_eq_getElem?_getD, show half l.length + (i - half l.length) = i by omega]
        rw [e] at h1
        rw [proof_right (by omega) hi', if_neg hi', List.reverse_cons, climb_snoc _ _ _ _ _ (by rw [List.length_reverse, h2]), h1]
        simp [hi']
theorem path_le : ∀ (N n i : Nat), n = N → (path n i).length ≤ n := by
  intro N
  induction N using Nat.strongRecOn with
  | _ N ih =>
    intro n i hN
    by_cases h : n < 2
    · rw [path_small h]; simp
    · have hl := half_lt (n := n) (by omega)
      rw [path_step (by omega), List.length_cons]
      split
      · have := ih (half n) (by omega) (half n) i rfl; omega
      · have := ih (n - half n) (by omega) (n - half n) (i - half n) rfl; omega
theorem proof_le (l : List (List UInt8)) (i : Nat) : (proof l i).length ≤ l.length := by
  rw [proof_length _ l i rfl]
  exact path_le _ _ _ rfl
theorem proof_32 : ∀ (l : List (List UInt8)) (i : Nat), ∀ h ∈ proof l i, h.length = 32 := by
  have key : ∀ (N : Nat) (l : List (List UInt8)) (i : Nat), l.length = N → ∀ h ∈ proof l i, h.length = 32 := by
    intro N
    induction N using Nat.strongRecOn with
    | _ N ih =>
      intro l i hN h hh
      by_cases hs : l.length < 2
      · rw [proof_small hs] at hh; cases hh
      · have hl := half_lt (n := l.length) (by omega)
        by_cases hi : i < half l.length
        · rw [proof_left (by omega) hi] at hh
          rcases List.mem_append.1 hh with hh | hh
          · exact ih (half l.length) (by omega) (l.take (half l.length)) i (by rw [List.length_take]; omega) h hh
          · rw [List.mem_singleton.1 hh]; exact root_len _
        · rw [proof_right (by omega) hi] at hh
          rcases List.mem_append.1 hh with hh | hh
          · exact ih (l.length - half l.length) (by omega) (l.drop (half l.length)) _ (by rw [List.length_drop]) h hh
          · rw [List.mem_singleton.1 hh]; exact root_len _
  exact fun l i => key l.length l i rfl
/-- Up by the first k halves. -/
def climbK (h : List UInt8) (bs : List Bool) (ps : List (List UInt8)) (k : Nat) : List UInt8 := climb h (bs.take k) (ps.take k)
theorem climbK_zero (h : List UInt8) (bs : List Bool) (ps : List (List UInt8)) : climbK h bs ps 0 = h := rfl
theorem climbK_succ {h : List UInt8} {bs : List Bool} {ps : List (List UInt8)} {k : Nat} (h1 : k < bs.length) (h2 : k < ps.length) : climbK h bs ps (k + 1) = if bs.getD k false then Sha.sum (1 :: (climbK h bs ps k ++ ps.getD k [])) else Sha.sum (1 :: (ps.getD k [] ++ climbK h bs ps k)) := by
  unfold climbK
  rw [Oct.take_succ false h1, Oct.take_succ [] h2]
  exact climb_snoc _ _ _ _ _ (by rw [List.length_take, List.length_take]; omega)
theorem climbK_all {h : List UInt8} {bs : List Bool} {ps : List (List UInt8)} {k : Nat} (h1 : bs.length ≤ k) (h2 : ps.length ≤ k) : climbK h bs ps k = climb h bs ps := by
  unfold climbK; rw [List.take_of_length_le h1, List.take_of_length_le h2]
theorem climb_len : ∀ (bs : List Bool) (ps : List (List UInt8)) (h : List UInt8), h.length = 32 → (climb h bs ps).length = 32
  | [], _, h, e => by cases ‹List (List UInt8)› <;> exact e
  | _ :: _, [], h, e => e
  | b :: bs, p :: ps, h, e => by
    rw [climb]
    refine climb_len bs ps _ ?_
    split <;> exact Sha.sum_length _
theorem climbK_len {h : List UInt8} (bs : List Bool) (ps : List (List UInt8)) (k : Nat) (e : h.length = 32) : (climbK h bs ps k).length = 32 := climb_len _ _ _ e
theorem rev_get {bs : List Bool} {k : Nat} (h : k < bs.length) : bs.reverse.getD k false = bs.getD (bs.length - 1 - k) false := by
  simp [List.getD_eq_getElem?_getD, List.getElem?_reverse h]
theorem up_pow (n : Nat) : ∀ f k, (∃ j, k = 2 ^ j) → ∃ j, up n f k = 2 ^ j
  | 0, k, h => h
  | f + 1, k, ⟨j, hj⟩ => by
    unfold up
    split
    · exact up_pow n f (2 * k) ⟨j + 1, by rw [hj, Nat.pow_succ]; omega⟩
    · exact ⟨j, hj⟩
theorem half_le {e n : Nat} (h2 : 2 ≤ n) (h : n ≤ 2 ^ (e + 1)) : half n ≤ 2 ^ e ∧ n - half n ≤ 2 ^ e := by
  have hl := half_lt h2
  obtain ⟨j, hj⟩ := up_pow n n 1 ⟨0, rfl⟩
  have hj' : half n = 2 ^ j := hj
  have hlt : 2 ^ j < 2 ^ (e + 1) := by omega
  have hje : j < e + 1 := (Nat.pow_lt_pow_iff_right (by omega)).1 hlt
  have hle : 2 ^ j ≤ 2 ^ e := Nat.pow_le_pow_right (by omega) (by omega)
  have he : ¬ half n < n - half n := up_end n n 1 (by omega) (by omega)
  omega
/-- A path is no longer than the number's power. -/
theorem path_log : ∀ (e n i : Nat), n ≤ 2 ^ e → (path n i).length ≤ e
  | 0, n, i, h => by rw [path_small (by simp at h; omega)]; simp
  | e + 1, n, i, h => by
    by_cases h2 : n < 2
    · rw [path_small h2]; simp
    · have hh := half_le (e := e) (n := n) (by omega) h
      rw [path_step (by omega), List.length_cons]
      split
      · have := path_log e (half n) i hh.1; omega
      · have := path_log e (n - half n) (i - half n) hh.2; omega
theorem path_63 {n : Nat} (i : Nat) (h : n ≤ 9223372036854775807) : (path n i).length ≤ 63 := path_log 63 n i (by omega)
/-- Going back with a proof, told from its end. -/
def back (h0 : List UInt8) : List Bool → List (List UInt8) → List UInt8 × Bool
  | [], rs => (h0, decide (rs.length = 0))
  | _ :: _, [] => (List.replicate 32 0, false)
  | b :: bs, p :: rs => (if b then Sha.sum (1 :: ((back h0 bs rs).1 ++ p)) else Sha.sum (1 :: (p ++ (back h0 bs rs).1)), (back h0 bs rs).2)
theorem back_len {h0 : List UInt8} (h : h0.length = 32) : ∀ bs rs, (back h0 bs rs).1.length = 32
  | [], rs => h
  | _ :: _, [] => rfl
  | b :: bs, p :: rs => by
    simp only [back]
    split <;> exact Sha.sum_length _
theorem back_ok (h0 : List UInt8) : ∀ (bs : List Bool) (rs : List (List UInt8)), (back h0 bs rs).2 = decide (bs.length = rs.length) ∧ (bs.length = rs.length → (back h0 bs rs).1 = climb h0 bs.reverse rs.reverse)
  | [], [] => ⟨rfl, fun _ => rfl⟩
  | [], _ :: _ => ⟨by simp [back], fun h => by simp at h⟩
  | _ :: _, [] => ⟨by simp [back], fun h => by simp at h⟩
  | b :: bs, p :: rs => by
    obtain ⟨h1, h2⟩ := back_ok h0 bs rs
    refine ⟨by simp only [back, h1, List.length_cons]; congr 1; simp, fun h => ?_⟩
    have hl : bs.length = rs.length := by simpa using h
    rw [List.reverse_cons, List.reverse_cons, climb_snoc _ _ _ _ _ (by simpa using hl), ← h2 hl]
    rfl
theorem back_proves (r : List UInt8) (n i : Nat) (s : List UInt8) (p : List (List UInt8)) (h : i < n) :
    ((back (Sha.sum (0 :: s)) (path n i) p.reverse).2 && decide ((back (Sha.sum (0 :: s)) (path n i) p.reverse).1 = r)) = proves r (n : Int) (i : Int) s p := by
  obtain ⟨h1, h2⟩ := back_ok (Sha.sum (0 :: s)) (path n i) p.reverse
  unfold proves
  rw [if_neg (by omega), h1, Int.toNat_natCast, Int.toNat_natCast]
  rw [List.length_reverse] at *
  by_cases hl : (path n i).length = p.length
  · rw [if_neg (by omega), h2 hl, List.reverse_reverse, decide_eq_true hl, Bool.true_and]
  · rw [if_pos (by omega), decide_eq_false hl, Bool.false_and]
theorem proves_out (r : List UInt8) (n i : Int) (s : List UInt8) (p : List (List UInt8)) (h : i < 0 ∨ n ≤ i) : proves r n i s p = false := by unfold proves; rw [if_pos h]
theorem proves_short (r : List UInt8) (n i : Nat) (s : List UInt8) (p : List (List UInt8)) (h : p.length ≠ (path n i).length) : proves r (n : Int) (i : Int) s p = false := by
  unfold proves
  split
  · rfl
  · rw [if_pos (by simpa using h)]
theorem proves_in (r : List UInt8) (n i : Nat) (s : List UInt8) (p : List (List UInt8)) (h : i < n) (hl : p.length = (path n i).length) : proves r (n : Int) (i : Int) s p = decide (climb (Sha.sum (0 :: s)) (path n i).reverse p = r) := by
  unfold proves
  rw [if_neg (by omega), Int.toNat_natCast, Int.toNat_natCast, if_neg (by simpa using hl)]
/-- Each text of a list is proved; with another root, or one hash more, it is not. -/
theorem proves_list {l : List (List UInt8)} {i : Nat} (h : i < l.length) (r : List UInt8) : proves r (l.length : Int) (i : Int) (l.getD i []) (proof l i) = decide (root l = r) := by
  rw [proves_in _ _ _ _ _ h (proof_length _ l i rfl), climb_root _ l i rfl h]
theorem proves_more {l : List (List UInt8)} {i : Nat} (r z : List UInt8) : proves r (l.length : Int) (i : Int) (l.getD i []) (proof l i ++ [z]) = false :=
  proves_short _ _ _ _ _ (by have := proof_length _ l i rfl; rw [List.length_append, List.length_singleton]; omega)
end Go.Merk
