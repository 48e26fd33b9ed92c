/- Proofs in lists, in plain Lean. -/
import Derived.Test.YtbadncpjbdfinaaDoorMerk
namespace Go.Merk
theorem proofF_more : ∀ (f g : Nat) (l : List (List UInt8)) (i : Nat), l.length ≤ f → l.length ≤ g → proofF f l i = proofF g l i
  | 0, 0, _, _, _, _ => rfl
  | 0, g + 1, l, i, h, _ => by rw [proofF, proofF, if_pos (by omega)]
  | f + 1, 0, l, i, _, h => by rw [proofF, proofF, if_pos (by omega)]
  | f + 1, g + 1, l, i, hf, hg => by
    rw [proofF, proofF]
    split
    · rfl
    · have hl := half_lt (n := l.length) (by omega)
      rw [proofF_more f g (l.take _) i (by rw [List.length_take]; omega) (by rw [List.length_take]; omega), proofF_more f g (l.drop _) _ (by rw [List.length_drop]; omega) (by rw [List.length_drop]; omega)]
theorem proof_small {l : List (List UInt8)} {i : Nat} (h : l.length < 2) : proof l i = [] := by
  unfold proof
  match l.length, h with
  | 0, _ => rfl
  | 1, h => rw [proofF, if_pos (by assumption)]
theorem proof_step {l : List (List UInt8)} {i : Nat} (h : 2 ≤ l.length) : proof l i = if i < half l.length then proof (l.take (half l.length)) i ++ [root (l.drop (half l.length))] else proof (l.drop (half l.length)) (i - half l.length) ++ [root (l.take (half l.length))] := by
  have hl := half_lt h
  obtain ⟨f, hf⟩ : ∃ f, l.length = f + 1 := ⟨l.length - 1, by omega⟩
  have e : proof l i = proofF (f + 1) l i := by unfold proof; rw [hf]
  rw [e, proofF, if_neg (by omega)]
  unfold proof
  rw [proofF_more f _ (l.take _) i (by rw [List.length_take]; omega) (Nat.le_refl _), proofF_more f _ (l.drop _) _ (by rw [List.length_drop]; omega) (Nat.le_refl _)]
theorem proof_left {l : List (List UInt8)} {i : Nat} (h : 2 ≤ l.length) (hi : i < half l.length) : proof l i = proof (l.take (half l.length)) i ++ [root (l.drop (half l.length))] := by rw [proof_step h, if_pos hi]
theorem proof_right {l : List (List UInt8)} {i : Nat} (h : 2 ≤ l.length) (hi : ¬ i < half l.length) : proof l i = proof (l.drop (half l.length)) (i - half l.length) ++ [root (l.take (half l.length))] := by rw [proof_step h, if_neg hi]
theorem pathF_more : ∀ (f g n i : Nat), n ≤ f → n ≤ g → pathF f n i = pathF g n i
  | 0, 0, _, _, _, _ => rfl
  | 0, g + 1, n, i, h, _ => by rw [pathF, pathF, if_pos (by omega)]
  | f + 1, 0, n, i, _, h => by rw [pathF, pathF, if_pos (by omega)]
  | f + 1, g + 1, n, i, hf, hg => by
    rw [pathF, pathF]
    split
    · rfl
    · have hl := half_lt (n := n) (by omega)
      rw [pathF_more f g (half n) i (by omega) (by omega), pathF_more f g (n - half n) _ (by omega) (by omega)]
theorem path_small {n i : Nat} (h : n < 2) : path n i = [] := by
  unfold path
  match n, h with
  | 0, _ => rfl
  | 1, h => rw [pathF, if_pos (by assumption)]
theorem path_step {n i : Nat} (h : 2 ≤ n) : path n i = decide (i < half n) :: (if i < half n then path (half n) i else path (n - half n) (i - half n)) := by
  have hl := half_lt h
  obtain ⟨f, hf⟩ : ∃ f, n = f + 1 := ⟨n - 1, by omega⟩
  have e : path n i = pathF (f + 1) n i := by unfold path; rw [hf]
  rw [e, pathF, if_neg (by omega)]
  unfold path
  rw [pathF_more f _ (half n) i (by omega) (Nat.le_refl _), pathF_more f _ (n - half n) _ (by omega) (Nat.le_refl _)]
theorem proof_length : ∀ (N : Nat) (l : List (List UInt8)) (i : Nat), l.length = N → (proof l i).length = (path l.length i).length := by
  intro N
  induction N using Nat.strongRecOn with
  | _ N ih =>
    intro l i hN
    by_cases h : l.length < 2
    · rw [proof_small h, path_small h]; rfl
    · have hl := half_lt (n := l.length) (by omega)
      rw [path_step (by omega)]
      by_cases hi : i < half l.length
      · rw [proof_left (by omega) hi, if_pos hi]
        have := ih (half l.length) (by omega) (l.take (half l.length)) i (by rw [List.length_take]; omega)
        rw [List.length_take, Nat.min_eq_left (by omega)] at this
        simp [this]
      · rw [proof_right (by omega) hi, if_neg hi]
        have := ih (l.length - half l.length) (by omega) (l.drop (half l.length)) (i - half l.length) (by rw [List.length_drop])
        rw [List.length_drop] at this
        simp [this]
theorem climb_snoc : ∀ (bs : List Bool) (ps : List (List UInt8)) (b : Bool) (p h : List UInt8), bs.length = ps.length → climb h (bs ++ [b]) (ps ++ [p]) = if b then Sha.sum (1 :: (climb h bs ps ++ p)) else Sha.sum (1 :: (p ++ climb h bs ps))
  | [], [], b, p, h, _ => by cases b <;> rfl
  | b' :: bs, p' :: ps, b, p, h, e => by
    have := climb_snoc bs ps b p (if b' then Sha.sum (1 :: (h ++ p')) else Sha.sum (1 :: (p' ++ h))) (by simpa using e)
    simpa [climb] using this
  | [], _ :: _, _, _, _, e => by simp at e
  | _ :: _, [], _, _, _, e => by simp at e
/-- A text's proof leads to the list's root. -/
theorem climb_root : ∀ (N : Nat) (l : List (List UInt8)) (i : Nat), l.length = N → i < l.length → climb (Sha.sum (0 :: l.getD i [])) (path l.length i).reverse (proof l i) = root l := by
  intro N
  induction N using Nat.strongRecOn with
  | _ N ih =>
    intro l i hN hi
    by_cases h : l.length < 2
    · rw [proof_small h, path_small h]
      match l, h, hi with
      | [x], _, hi =>
        have : i = 0 := by simpa using hi
        subst this
        rfl
    · have hl := half_lt (n := l.length) (by omega)
      rw [path_step (by omega), root_more (l := l) (by omega)]
      by_cases hi' : i < half l.length
      · have h1 := ih (half l.length) (by omega) (l.take (half l.length)) i (by rw [List.length_take]; omega) (by rw [List.length_take]; omega)
        have h2 := proof_length _ (l.take (half l.length)) i rfl
        rw [List.length_take, Nat.min_eq_left (by omega)] at h1 h2
        have e : (l.take (half l.length)).getD i [] = l.getD i [] := by simp [List.getD_eq_getElem?_getD, List.getElem?_take, hi']
        rw [e] at h1
        rw [proof_left (by omega) hi', if_pos hi', List.reverse_cons, climb_snoc _ _ _ _ _ (by rw [List.length_reverse, h2]), h1]
        simp [hi']
      · have h1 := ih (l.length - half l.length) (by omega) (l.drop (half l.length)) (i - half l.length) (by rw [List.length_drop]) (by rw [List.length_drop]; omega)
        have h2 := proof_length _ (l.drop (half l.length)) (i - half l.length) rfl
        rw [List.length_drop] at h1 h2
        have e : (l.drop (half l.length)).getD (i - half l.length) [] = l.getD i [] := by simp [List.getD_eq_getElem?_getD, show half l.length + (i - half l.length) = i by omega]
        rw [e] at h1
        rw [proof_right (by omega) hi', if_neg hi', List.reverse_cons, climb_snoc _ _ _ _ _ (by rw [List.length_reverse, h2]), h1]
        simp [hi']
theorem path_le : ∀ (N n i : Nat), n = N → (path n i).length ≤ n := by
  intro N
  induction N using Nat.strongRecOn with
  | _ N ih =>
    intro n i hN
    by_cases h : n < 2
    · rw [path_small h]; simp
    · have hl := half_lt (n := n) (by omega)
      rw [path_step (by omega), List.length_cons]
      split
      · have := ih (half n) (by omega) (half n) i rfl; omega
      · have := ih (n - half n) (by omega) (n - half n) (i - half n) rfl; omega
theorem proof_le (l : List (List UInt8)) (i : Nat) : (proof l i).length ≤ l.length := by
  rw [proof_length _ l i rfl]
  exact path_le _ _ _ rfl
theorem proof_32 : ∀ (l : List (List UInt8)) (i : Nat), ∀ h ∈ proof l i, h.length = 32 := by
  have key : ∀ (N : Nat) (l : List (List UInt8)) (i : Nat), l.length = N → ∀ h ∈ proof l i, h.length = 32 := by
    intro N
    induction N using Nat.strongRecOn with
    | _ N ih =>
      intro l i hN h hh
      by_cases hs : l.length < 2
      · rw [proof_small hs] at hh; cases hh
      · have hl := half_lt (n := l.length) (by omega)
        by_cases hi : i < half l.length
        · rw [proof_left (by omega) hi] at hh
          rcases List.mem_append.1 hh with hh | hh
          · exact ih (half l.length) (by omega) (l.take (half l.length)) i (by rw [List.length_take]; omega) h hh
          · rw [List.mem_singleton.1 hh]; exact root_len _
        · rw [proof_right (by omega) hi] at hh
          rcases List.mem_append.1 hh with hh | hh
          · exact ih (l.length - half l.length) (by omega) (l.drop (half l.length)) _ (by rw [List.length_drop]) h hh
          · rw [List.mem_singleton.1 hh]; exact root_len _
  exact fun l i => key l.length l i rfl
end Go.Merk
