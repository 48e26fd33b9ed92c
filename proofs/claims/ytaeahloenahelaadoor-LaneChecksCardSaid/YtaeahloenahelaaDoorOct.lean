/- Numbers, texts and lists as bytes: the plain laws. -/

namespace Go.Oct
/-- How many bytes a number has. -/
def blen (m : Nat) : Nat := if m = 0 then 0 else Nat.log2 m / 8 + 1
/-- The j low bytes of m, the high one first. -/
def lows : Nat → Nat → List UInt8
  | 0, _ => []
  | j + 1, m => UInt8.ofNat (m / 256 ^ j) :: lows j m
theorem lows_length : ∀ j m, (lows j m).length = j
  | 0, _ => rfl
  | j + 1, m => by simp [lows, lows_length j m]
/-- A number laid. -/
def numL (m : Nat) : List UInt8 := UInt8.ofNat (blen m) :: lows (blen m) m
/-- A number laid, or why not. -/
def number (n : Int) : List UInt8 × Int := if n < 0 then ([], 2) else (numL n.toNat, 0)

theorem blen_zero : blen 0 = 0 := rfl
theorem pow256 (k : Nat) : 256 ^ k = 2 ^ (8 * k) := by rw [Nat.pow_mul]
theorem blen_lt (m : Nat) : m < 256 ^ blen m := by
  unfold blen
  split
  · omega
  · rename_i h
    rw [pow256]
    exact Nat.lt_of_lt_of_le Nat.lt_log2_self (Nat.pow_le_pow_right (by omega) (by omega))
theorem blen_ge {m : Nat} (h : 0 < m) : 256 ^ (blen m - 1) ≤ m := by
  unfold blen
  rw [if_neg (by omega), Nat.add_sub_cancel, pow256]
  exact Nat.le_trans (Nat.pow_le_pow_right (by omega) (by omega)) (Nat.log2_self_le (by omega))
theorem blen_eq (j m : Nat) (h : m < 256 ^ j) (h2 : j = 0 ∨ 256 ^ (j - 1) ≤ m) : blen m = j := by
  rcases Nat.eq_zero_or_pos m with h0 | h0
  · subst h0
    rcases h2 with h2 | h2
    · rw [h2]; rfl
    · have : 0 < 256 ^ (j - 1) := Nat.pow_pos (by omega)
      omega
  · have hb : 0 < blen m := by unfold blen; rw [if_neg (by omega)]; omega
    have h3 := blen_lt m
    have h4 := blen_ge h0
    have h5 : blen m - 1 < j := (Nat.pow_lt_pow_iff_right (by omega : 1 < 256)).1 (Nat.lt_of_le_of_lt h4 h)
    rcases h2 with h2 | h2
    · subst h2; simp at h; omega
    · have h6 : j - 1 < blen m := (Nat.pow_lt_pow_iff_right (by omega : 1 < 256)).1 (Nat.lt_of_le_of_lt h2 h3)
      omega
theorem blen_le8 {m : Nat} (h : m ≤ 9223372036854775807) : blen m ≤ 8 := by
  rcases Nat.eq_zero_or_pos m with h0 | h0
  · subst h0; simp [blen_zero]
  · have h1 := blen_ge h0
    rcases Nat.lt_or_ge 8 (blen m) with h2 | h2
    · have h3 : 256 ^ 8 ≤ 256 ^ (blen m - 1) := Nat.pow_le_pow_right (by omega) (by omega)
      have h4 : (256 : Nat) ^ 8 = 18446744073709551616 := by decide
      omega
    · exact h2
/-- What the loop over the bytes sees. -/
theorem round_pos {m j : Nat} (hm : m ≤ 9223372036854775807) (h : 0 < m / 256 ^ j) : j ≤ 7 ∧ 256 ^ j ≤ m := by
  have hp : 0 < 256 ^ j := Nat.pow_pos (by omega)
  have h1 : 256 ^ j ≤ m := by
    have := (Nat.le_div_iff_mul_le hp).1 h
    omega
  refine ⟨?_, h1⟩
  rcases Nat.lt_or_ge 7 j with h2 | h2
  · have h3 : 256 ^ 8 ≤ 256 ^ j := Nat.pow_le_pow_right (by omega) (by omega)
    have h4 : (256 : Nat) ^ 8 = 18446744073709551616 := by decide
    omega
  · exact h2
theorem round_zero {m j : Nat} (h : m / 256 ^ j = 0) (h2 : j = 0 ∨ 256 ^ (j - 1) ≤ m) : blen m = j := by
  have hp : 0 < 256 ^ j := Nat.pow_pos (by omega)
  refine blen_eq j m ?_ h2
  rw [Nat.div_eq_zero_iff] at h
  omega
theorem round_pos' {m j : Nat} (hm : m ≤ 9223372036854775807) (h : (0 : Int) < ((m / 256 ^ j : Nat) : Int)) : j ≤ 7 ∧ 256 ^ j ≤ m := round_pos hm (Int.natCast_pos.1 h)
theorem round_zero' {m j : Nat} (h : ¬ (0 : Int) < ((m / 256 ^ j : Nat) : Int)) (h2 : j = 0 ∨ 256 ^ (j - 1) ≤ m) : blen m = j :=
  round_zero (Nat.eq_zero_of_not_pos fun hp => h (Int.natCast_pos.2 hp)) h2
theorem div_pow_succ (m j : Nat) : m / 256 ^ j / 256 = m / 256 ^ (j + 1) := by rw [Nat.div_div_eq_div_mul, ← Nat.pow_succ]

/-! ### Texts and lists -/
def textL (s : List UInt8) : List UInt8 := numL s.length ++ s
def text (s : List UInt8) : List UInt8 × Int := if 65536 < s.length then ([], 3) else (textL s, 0)
def listL (l : List (List UInt8)) : List UInt8 := numL l.length ++ (l.map textL).flatten
def list (l : List (List UInt8)) : List UInt8 × Int := if 1024 < l.length ∨ 65536 < l.flatten.length then ([], 3) else (listL l, 0)

theorem number_nat (m : Nat) : number (m : Int) = (numL m, 0) := by simp [number, show ¬ ((m : Int) < 0) by omega]
theorem numL_length (m : Nat) : (numL m).length = blen m + 1 := by simp [numL, lows_length]
theorem numL_le {m : Nat} (h : m ≤ 9223372036854775807) : (numL m).length ≤ 9 := by have := blen_le8 h; rw [numL_length]; omega
theorem textL_length (s : List UInt8) : (textL s).length = blen s.length + 1 + s.length := by simp [textL, numL_length]
theorem textL_le {s : List UInt8} (h : s.length ≤ 9223372036854775807) : (textL s).length ≤ s.length + 9 := by have := blen_le8 h; rw [textL_length]; omega

theorem getD_eq {α : Type} {l : List α} {k : Nat} (d : α) (h : k < l.length) : l.getD k d = l[k] := by simp [List.getD_eq_getElem?_getD, h]
theorem take_succ {α : Type} {l : List α} {k : Nat} (d : α) (h : k < l.length) : l.take (k + 1) = l.take k ++ [l.getD k d] := by
  rw [List.take_succ_eq_append_getElem h, getD_eq d h]
/-- The first k of some texts, one behind the other. -/
def tf (l : List (List UInt8)) (k : Nat) : List UInt8 := (l.take k).flatten
theorem tf_zero (l : List (List UInt8)) : tf l 0 = [] := by simp [tf]
theorem tf_succ {l : List (List UInt8)} {k : Nat} (h : k < l.length) : tf l (k + 1) = tf l k ++ l.getD k [] := by
  unfold tf
  rw [take_succ [] h, List.flatten_append]
  simp
theorem tf_all {l : List (List UInt8)} {k : Nat} (h : l.length ≤ k) : tf l k = l.flatten := by simp [tf, List.take_of_length_le h]
theorem tf_le (l : List (List UInt8)) (k : Nat) : (tf l k).length ≤ l.flatten.length := by
  conv => rhs; rw [← List.take_append_drop k l, List.flatten_append, List.length_append]
  exact Nat.le_add_right _ _
theorem len_le_flatten {l : List (List UInt8)} {k : Nat} (h : k < l.length) : (tf l k).length + (l.getD k []).length ≤ l.flatten.length := by
  have h1 := tf_le l (k + 1)
  rw [tf_succ h, List.length_append] at h1
  exact h1
/-- All that a list's text is made of, before it is joined. -/
def parts (l : List (List UInt8)) (k : Nat) : List (List UInt8) := numL l.length :: (l.take k).map textL
theorem parts_succ {l : List (List UInt8)} {k : Nat} (h : k < l.length) : parts l (k + 1) = parts l k ++ [textL (l.getD k [])] := by
  simp [parts, take_succ [] h]
theorem parts_length (l : List (List UInt8)) {k : Nat} (h : k ≤ l.length) : (parts l k).length = k + 1 := by simp [parts]; omega
theorem parts_flatten {l : List (List UInt8)} {k : Nat} (h : l.length ≤ k) : (parts l k).flatten = listL l := by simp [parts, listL, List.take_of_length_le h]
theorem map_textL_le : ∀ (l : List (List UInt8)), l.flatten.length ≤ 9223372036854775807 → ((l.map textL).flatten).length ≤ l.flatten.length + 9 * l.length
  | [], _ => by simp
  | s :: l, h => by
    simp only [List.flatten_cons, List.length_append] at h
    have h1 := map_textL_le l (by omega)
    have h2 := textL_le (s := s) (by omega)
    simp only [List.map_cons, List.flatten_cons, List.length_append, List.length_cons]
    omega
theorem listL_le {l : List (List UInt8)} (h1 : l.length ≤ 1024) (h2 : l.flatten.length ≤ 65536) : (listL l).length ≤ 80000 := by
  have h3 := map_textL_le l (by omega)
  have h4 := numL_le (m := l.length) (by omega)
  simp only [listL, List.length_append]
  omega
theorem list_big {l : List (List UInt8)} (h : 1024 < l.length) : list l = ([], 3) := by simp [list, h]
theorem list_long {l : List (List UInt8)} (h : 65536 < l.flatten.length) : list l = ([], 3) := by
  unfold list
  rw [if_pos (.inr h)]
theorem list_ok {l : List (List UInt8)} (h1 : ¬ 1024 < l.length) (h2 : ¬ 65536 < l.flatten.length) : list l = (listL l, 0) := by
  simp only [list, h1, h2, or_self, if_false]

/-! ### Reading -/
def val (l : List UInt8) : Nat := l.foldl (fun n b => n * 256 + b.toNat) 0
/-- What stands at a place whose first byte is k. -/
def rdk (s : List UInt8) (p k : Nat) : Int × Int × Int :=
  if 8 < k then (0, 0, 6) else if s.length < p + 1 + k then (0, 0, 5)
  else if 0 < k ∧ (s.getD (p + 1) 0 = 0 ∨ (k = 8 ∧ 127 < (s.getD (p + 1) 0).toNat)) then (0, 0, 6)
  else (((val ((s.drop (p + 1)).take k) : Nat) : Int), ((p + 1 + k : Nat) : Int), 0)
/-- A number read. -/
def rdn (s : List UInt8) (p : Int) : Int × Int × Int :=
  if p < 0 ∨ (s.length : Int) < p then (0, 0, 4) else if p = s.length then (0, 0, 5) else rdk s p.toNat (s.getD p.toNat 0).toNat

/-- The place bears a number of k bytes. -/
structure Good (s : List UInt8) (p k : Nat) : Prop where
  lt : p < s.length
  fst : (s.getD p 0).toNat = k
  le8 : k ≤ 8
  fit : p + 1 + k ≤ s.length
  form : ¬ (0 < k ∧ (s.getD (p + 1) 0 = 0 ∨ (k = 8 ∧ 127 < (s.getD (p + 1) 0).toNat)))
/-- A text read. -/
def rdt (s : List UInt8) (p : Int) : List UInt8 × Int × Int :=
  let r := rdn s p
  if r.2.2 ≠ 0 then ([], 0, r.2.2) else if 65536 < r.1 then ([], 0, 3) else if (s.length : Int) < r.2.1 + r.1 then ([], 0, 5)
  else ((s.drop r.2.1.toNat).take r.1.toNat, r.2.1 + r.1, 0)
/-- Texts read, n of them yet; sum: how many bytes they may still have. -/
def rdls (s : List UInt8) : Nat → Int → Int → List (List UInt8) → List (List UInt8) × Int × Int
  | 0, p, _, acc => (acc, p, 0)
  | n + 1, p, left, acc =>
    let r := rdt s p
    if r.2.2 ≠ 0 then ([], 0, r.2.2) else if left < r.1.length then ([], 0, 3) else rdls s n r.2.1 (left - r.1.length) (acc ++ [r.1])
/-- A list read. -/
def rdl (s : List UInt8) (p : Int) : List (List UInt8) × Int × Int :=
  let r := rdn s p
  if r.2.2 ≠ 0 then ([], 0, r.2.2) else if 1024 < r.1 then ([], 0, 3) else rdls s r.1.toNat r.2.1 65536 []
end Go.Oct
namespace Go.Oct
end Go.Oct

namespace Go.Oct
theorem text_len (s : List UInt8) : (text s).1.length ≤ 65545 := by
  unfold text
  split
  · simp
  · have := textL_le (s := s) (by omega)
    simp only
    omega
theorem flatten_take_le {l : List (List UInt8)} : ∀ {k : Nat}, k ≤ l.length → (tf l k).length ≤ 65536 → (((l.take k).map textL).flatten).length ≤ (tf l k).length + 9 * k := by
  intro k hk h
  have := map_textL_le (l.take k) (by unfold tf at h; omega)
  unfold tf
  simp only [List.length_take] at this
  have : min k l.length = k := by omega
  omega
/-- While a list is laid, its text stays short. -/
theorem parts_len {l : List (List UInt8)} {k : Nat} (hk : k ≤ l.length) (hl : l.length ≤ 140737488351232) (h : (tf l k).length ≤ 65536) : (parts l k).flatten.length ≤ 65545 + 9 * k := by
  have h1 := flatten_take_le hk h
  have h2 := numL_le (m := l.length) (by omega)
  simp only [parts, List.flatten_cons, List.length_append]
  omega
end Go.Oct

namespace Go.Oct
theorem text_ok {s : List UInt8} (h : ¬ 65536 < s.length) : text s = (textL s, 0) := by simp only [text, h, if_false]
end Go.Oct

namespace Go.Oct
end Go.Oct
