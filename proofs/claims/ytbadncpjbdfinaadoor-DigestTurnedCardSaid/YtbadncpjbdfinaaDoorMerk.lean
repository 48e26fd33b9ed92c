/- Roots of lists and proofs, in plain Lean. -/
import Derived.Test.YtbadncpjbdfinaaDoorSha
namespace Go.Merk
/-- How many of n stand in the first half: k doubled while it is below the rest. -/
def up (n : Nat) : Nat → Nat → Nat
  | 0, k => k
  | f + 1, k => if k < n - k then up n f (2 * k) else k
def half (n : Nat) : Nat := up n n 1
theorem up_le (n : Nat) : ∀ f k, 0 < k → k < n → 0 < up n f k ∧ up n f k < n
  | 0, k, h0, h => ⟨h0, h⟩
  | f + 1, k, h0, h => by
    unfold up
    split
    · exact up_le n f (2 * k) (by omega) (by omega)
    · exact ⟨h0, h⟩
theorem half_lt {n : Nat} (h : 2 ≤ n) : 0 < half n ∧ half n < n := up_le n n 1 (by omega) (by omega)
/-- With enough rounds left the doubling has come to its end. -/
theorem up_end (n : Nat) : ∀ f k, 0 < k → n ≤ k + f → ¬ up n f k < n - up n f k
  | 0, k, _, h => by simp only [up]; omega
  | f + 1, k, h0, h => by
    unfold up
    split
    · rename_i h1; exact up_end n f (2 * k) (by omega) (by omega)
    · assumption
theorem up_step {n f k : Nat} (h : k < n - k) : up n (f + 1) k = up n f (2 * k) := by rw [up, if_pos h]
theorem up_stop {n f k : Nat} (h : ¬ k < n - k) : up n f k = k := by
  cases f with
  | zero => rfl
  | succ f => rw [up, if_neg h]
/-- A list's root. -/
def rootF : Nat → List (List UInt8) → List UInt8
  | 0, _ => Sha.sum []
  | _ + 1, [] => Sha.sum []
  | _ + 1, [x] => Sha.sum (0 :: x)
  | f + 1, l => Sha.sum (1 :: (rootF f (l.take (half l.length)) ++ rootF f (l.drop (half l.length))))
def root (l : List (List UInt8)) : List UInt8 := rootF l.length l
theorem rootF_len (f : Nat) (l : List (List UInt8)) : (rootF f l).length = 32 := by
  unfold rootF
  split <;> exact Sha.sum_length _
theorem root_len (l : List (List UInt8)) : (root l).length = 32 := rootF_len _ _
theorem rootF_more : ∀ (f g : Nat) (l : List (List UInt8)), l.length ≤ f → l.length ≤ g → rootF f l = rootF g l
  | 0, 0, l, _, _ => rfl
  | 0, g + 1, l, h, _ => by
    have : l = [] := List.eq_nil_of_length_eq_zero (by omega)
    subst this
    rfl
  | f + 1, 0, l, _, h => by
    have : l = [] := List.eq_nil_of_length_eq_zero (by omega)
    subst this
    rfl
  | f + 1, g + 1, l, hf, hg => by
    match l with
    | [] => rfl
    | [x] => rfl
    | x :: y :: r =>
      have hl := half_lt (n := (x :: y :: r).length) (by simp)
      simp only [rootF]
      rw [rootF_more f g ((x :: y :: r).take _) (by rw [List.length_take]; omega) (by rw [List.length_take]; omega), rootF_more f g ((x :: y :: r).drop _) (by rw [List.length_drop]; omega) (by rw [List.length_drop]; omega)]
theorem root_nil : root [] = Sha.sum [] := rfl
theorem root_one (x : List UInt8) : root [x] = Sha.sum (0 :: x) := rfl
theorem root_more {l : List (List UInt8)} (h : 2 ≤ l.length) : root l = Sha.sum (1 :: (root (l.take (half l.length)) ++ root (l.drop (half l.length)))) := by
  have hl := half_lt h
  match l, h, hl with
  | x :: y :: r, h, hl =>
    show rootF (r.length + 1 + 1) (x :: y :: r) = _
    simp only [rootF]
    unfold root
    rw [rootF_more (r.length + 1) _ ((x :: y :: r).take _) (by rw [List.length_take]; simp at hl ⊢; omega) (Nat.le_refl _), rootF_more (r.length + 1) _ ((x :: y :: r).drop _) (by rw [List.length_drop]; simp at hl ⊢; omega) (Nat.le_refl _)]
/-- A text's proof: the other halves' roots, the nearest first. -/
def proofF : Nat → List (List UInt8) → Nat → List (List UInt8)
  | 0, _, _ => []
  | f + 1, l, i => if l.length < 2 then [] else
    if i < half l.length then proofF f (l.take (half l.length)) i ++ [root (l.drop (half l.length))] else proofF f (l.drop (half l.length)) (i - half l.length) ++ [root (l.take (half l.length))]
def proof (l : List (List UInt8)) (i : Nat) : List (List UInt8) := proofF l.length l i
/-- Which half a text stands in, from the whole list down. -/
def pathF : Nat → Nat → Nat → List Bool
  | 0, _, _ => []
  | f + 1, n, i => if n < 2 then [] else decide (i < half n) :: (if i < half n then pathF f (half n) i else pathF f (n - half n) (i - half n))
def path (n i : Nat) : List Bool := pathF n n i
/-- Up from a leaf: the nearest half first. -/
def climb (h : List UInt8) : List Bool → List (List UInt8) → List UInt8
  | b :: bs, p :: ps => climb (if b then Sha.sum (1 :: (h ++ p)) else Sha.sum (1 :: (p ++ h))) bs ps
  | _, _ => h
def proves (r : List UInt8) (n i : Int) (s : List UInt8) (ps : List (List UInt8)) : Bool :=
  if i < 0 ∨ n ≤ i then false else if ps.length ≠ (path n.toNat i.toNat).length then false else decide (climb (Sha.sum (0 :: s)) (path n.toNat i.toNat).reverse ps = r)
end Go.Merk
