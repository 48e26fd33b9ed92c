/- The digest, in plain Lean. -/
import Derived.Test.YtlhddgkbbdfacaaDoorS4
namespace Go.Sha
open Go.Sx (w8 lo8)
abbrev W := BitVec 32
def rotr (x : W) (n : Nat) : W := x >>> n ||| x <<< (32 - n)
def K : List W := [BitVec.ofNat 32 1116352408, BitVec.ofNat 32 1899447441, BitVec.ofNat 32 3049323471, BitVec.ofNat 32 3921009573, BitVec.ofNat 32 961987163, BitVec.ofNat 32 1508970993, BitVec.ofNat 32 2453635748, BitVec.ofNat 32 2870763221, BitVec.ofNat 32 3624381080, BitVec.ofNat 32 310598401, BitVec.ofNat 32 607225278, BitVec.ofNat 32 1426881987, BitVec.ofNat 32 1925078388, BitVec.ofNat 32 2162078206, BitVec.ofNat 32 2614888103, BitVec.ofNat 32 3248222580, BitVec.ofNat 32 3835390401, BitVec.ofNat 32 4022224774, BitVec.ofNat 32 264347078, BitVec.ofNat 32 604807628, BitVec.ofNat 32 770255983, BitVec.ofNat 32 1249150122, BitVec.ofNat 32 1555081692, BitVec.ofNat 32 1996064986, BitVec.ofNat 32 2554220882, BitVec.ofNat 32 2821834349, BitVec.ofNat 32 2952996808, BitVec.ofNat 32 3210313671, BitVec.ofNat 32 3336571891, BitVec.ofNat 32 3584528711, BitVec.ofNat 32 113926993, BitVec.ofNat 32 338241895, BitVec.ofNat 32 666307205, BitVec.ofNat 32 773529912, BitVec.ofNat 32 1294757372, BitVec.ofNat 32 1396182291, BitVec.ofNat 32 1695183700, BitVec.ofNat 32 1986661051, BitVec.ofNat 32 2177026350, BitVec.ofNat 32 2456956037, BitVec.ofNat 32 2730485921, BitVec.ofNat 32 2820302411, BitVec.ofNat 32 3259730800, BitVec.ofNat 32 3345764771, BitVec.ofNat 32 3516065817, BitVec.ofNat 32 3600352804, BitVec.ofNat 32 4094571909, BitVec.ofNat 32 275423344, BitVec.ofNat 32 430227734, BitVec.ofNat 32 506948616, BitVec.ofNat 32 659060556, BitVec.ofNat 32 883997877, BitVec.ofNat 32 958139571, BitVec.ofNat 32 1322822218, BitVec.ofNat 32 1537002063, BitVec.ofNat 32 1747873779, BitVec.ofNat 32 1955562222, BitVec.ofNat 32 2024104815, BitVec.ofNat 32 2227730452, BitVec.ofNat 32 2361852424, BitVec.ofNat 32 2428436474, BitVec.ofNat 32 2756734187, BitVec.ofNat 32 3204031479, BitVec.ofNat 32 3329325298]
def H0 : List W := [BitVec.ofNat 32 1779033703, BitVec.ofNat 32 3144134277, BitVec.ofNat 32 1013904242, BitVec.ofNat 32 2773480762, BitVec.ofNat 32 1359893119, BitVec.ofNat 32 2600822924, BitVec.ofNat 32 528734635, BitVec.ofNat 32 1541459225]
def wd (b : List UInt8) (i : Nat) : W := w8 (b.getD (4 * i) 0) <<< 24 ||| w8 (b.getD (4 * i + 1) 0) <<< 16 ||| w8 (b.getD (4 * i + 2) 0) <<< 8 ||| w8 (b.getD (4 * i + 3) 0)
def nextW (w : List W) (t : Nat) : W :=
  w.getD (t - 16) 0 + w.getD (t - 7) 0 + (rotr (w.getD (t - 15) 0) 7 ^^^ rotr (w.getD (t - 15) 0) 18 ^^^ w.getD (t - 15) 0 >>> 3) + (rotr (w.getD (t - 2) 0) 17 ^^^ rotr (w.getD (t - 2) 0) 19 ^^^ w.getD (t - 2) 0 >>> 10)
def sched (b : List UInt8) : Nat → List W
  | 0 => []
  | t + 1 => sched b t ++ [if t < 16 then wd b t else nextW (sched b t) t]
theorem sched_length (b : List UInt8) : ∀ t, (sched b t).length = t
  | 0 => rfl
  | t + 1 => by simp [sched, sched_length b t]
theorem sched_wd (b : List UInt8) {t : Nat} (h : t < 16) : sched b (t + 1) = sched b t ++ [wd b t] := by simp [sched, h]
theorem sched_next (b : List UInt8) {t : Nat} (h : ¬ t < 16) : sched b (t + 1) = sched b t ++ [nextW (sched b t) t] := by simp [sched, h]
def sx (v : List W) (k w : W) : W := v.getD 7 0 + (rotr (v.getD 4 0) 6 ^^^ rotr (v.getD 4 0) 11 ^^^ rotr (v.getD 4 0) 25) + (v.getD 4 0 &&& v.getD 5 0 ^^^ ~~~ v.getD 4 0 &&& v.getD 6 0) + k + w
def sy (v : List W) : W := (rotr (v.getD 0 0) 2 ^^^ rotr (v.getD 0 0) 13 ^^^ rotr (v.getD 0 0) 22) + (v.getD 0 0 &&& v.getD 1 0 ^^^ v.getD 0 0 &&& v.getD 2 0 ^^^ v.getD 1 0 &&& v.getD 2 0)
def round (v : List W) (k w : W) : List W := [sx v k w + sy v, v.getD 0 0, v.getD 1 0, v.getD 2 0, v.getD 3 0 + sx v k w, v.getD 4 0, v.getD 5 0, v.getD 6 0]
def rounds (v ws : List W) : Nat → List W
  | 0 => v
  | t + 1 => round (rounds v ws t) (K.getD t 0) (ws.getD t 0)
theorem rounds_length {v ws : List W} (h : v.length = 8) : ∀ t, (rounds v ws t).length = 8
  | 0 => h
  | t + 1 => rfl
/-- The sum's first i words are done. -/
def mix (s v : List W) (i : Nat) : List W := (List.zipWith (· + ·) s v).take i ++ s.drop i
theorem mix_zero (s v : List W) : mix s v 0 = s := by simp [mix]
theorem mix_length {s v : List W} (hs : s.length = 8) (hv : v.length = 8) (i : Nat) : (mix s v i).length = 8 := by simp [mix, hs, hv]; omega
theorem mix_get {s v : List W} (hs : s.length = 8) (hv : v.length = 8) {i : Nat} (h : i < 8) : (mix s v i).getD i 0 = s.getD i 0 := by
  simp [mix, List.getD_eq_getElem?_getD, List.getElem?_append, hs, hv, Nat.min_eq_left (show i ≤ 8 by omega)]
theorem mix_succ {s v : List W} (hs : s.length = 8) (hv : v.length = 8) {i : Nat} (h : i < 8) : (mix s v i).set i (s.getD i 0 + v.getD i 0) = mix s v (i + 1) := by
  have hz : (List.zipWith (· + ·) s v).length = 8 := by simp [hs, hv]
  unfold mix
  rw [List.set_append_right _ _ (by simp [hz]; omega), List.length_take, hz, Nat.min_eq_left (by omega), Nat.sub_self, Oct.take_succ 0 (by omega), List.append_assoc]
  congr 1
  have e : s.drop i = s[i]'(by omega) :: s.drop (i + 1) := List.drop_eq_getElem_cons (by omega)
  rw [e, List.set_cons_zero]
  have e2 : (List.zipWith (· + ·) s v).getD i 0 = s.getD i 0 + v.getD i 0 := by simp [List.getD_eq_getElem?_getD, hs, hv, h]
  rw [e2]
  rfl
theorem mix_all {s v : List W} (hs : s.length = 8) (hv : v.length = 8) : mix s v 8 = List.zipWith (· + ·) s v := by
  simp [mix, hs, hv, List.take_of_length_le, List.drop_eq_nil_of_le]
def block (s : List W) (b : List UInt8) : List W := List.zipWith (· + ·) s (rounds s (sched b 64) 64)
theorem block_length {s : List W} (hs : s.length = 8) (b : List UInt8) : (block s b).length = 8 := by simp [block, hs, rounds_length hs]
def blocks (s : List W) (b : List UInt8) : Nat → List W
  | 0 => s
  | n + 1 => block (blocks s b n) ((b.drop (64 * n)).take 64)
theorem blocks_length {s : List W} (hs : s.length = 8) (b : List UInt8) : ∀ n, (blocks s b n).length = 8
  | 0 => hs
  | n + 1 => block_length (blocks_length hs b n) _
def be (n : Nat) : List UInt8 := (List.range 8).map fun i => UInt8.ofNat (n / 256 ^ (7 - i))
theorem be_length (n : Nat) : (be n).length = 8 := by simp [be]
def zeros (n : Nat) : Nat := (119 - n % 64) % 64
def pad (s : List UInt8) : List UInt8 := s ++ [128] ++ List.replicate (zeros s.length) 0 ++ be (8 * s.length)
def out (v : List W) : List UInt8 := v.flatMap fun (x : W) => [lo8 (x >>> 24), lo8 (x >>> 16), lo8 (x >>> 8), lo8 x]
theorem out_length (v : List W) : (out v).length = 4 * v.length := by
  induction v with
  | nil => rfl
  | cons x v ih => rw [out, List.flatMap_cons, List.length_append]; show 4 + (out v).length = _; rw [ih]; simp; omega
def sum (s : List UInt8) : List UInt8 := out (blocks H0 (pad s) ((pad s).length / 64))
theorem sum_length (s : List UInt8) : (sum s).length = 32 := by rw [sum, out_length, blocks_length rfl]
theorem pad_length (s : List UInt8) : (pad s).length = s.length + 9 + zeros s.length := by simp [pad, be_length]; omega
theorem pad_mod (s : List UInt8) : (pad s).length % 64 = 0 := by rw [pad_length, zeros]; omega
/-- Blocks that lie in the text are the text's. -/
theorem blocks_more (v : List W) (s t : List UInt8) : ∀ n, 64 * n ≤ s.length → blocks v (s ++ t) n = blocks v s n
  | 0, _ => rfl
  | n + 1, h => by
    rw [blocks, blocks, blocks_more v s t n (by omega), List.drop_append_of_le_length (by omega), List.take_append_of_le_length (by simp; omega)]
theorem blocks_pad (v : List W) (s : List UInt8) {n : Nat} (h : 64 * n ≤ s.length) : blocks v (pad s) n = blocks v s n := by
  rw [pad, List.append_assoc, List.append_assoc]
  exact blocks_more v s _ n h

/-! ### The end, as it is laid -/
/-- i bytes of the length are laid. n: how many bytes of the text are left; m: how many bytes are to be taken in. -/
def tail (t : List UInt8) (m bits i : Nat) : List UInt8 := t ++ [128] ++ List.replicate (m - 9 - t.length + (8 - i)) 0 ++ (be bits).drop (8 - i) ++ List.replicate (128 - m) 0
theorem tail_zero (t : List UInt8) (m bits : Nat) (h : t.length + 9 ≤ m) (hm : m ≤ 128) : tail t m bits 0 = t ++ [128] ++ List.replicate (127 - t.length) 0 := by
  simp only [tail, Nat.sub_zero, List.drop_eq_nil_of_le (Nat.le_of_eq (be_length bits)), List.append_nil]
  rw [List.append_assoc (t ++ [128]), List.replicate_append_replicate]
  congr 2
  omega
theorem tail_length (t : List UInt8) (m bits i : Nat) (h : t.length + 9 ≤ m) (hm : m ≤ 128) (hi : i ≤ 8) : (tail t m bits i).length = 128 := by
  simp [tail, be_length]; omega
theorem tail_succ (t : List UInt8) (m bits i : Nat) (h : t.length + 9 ≤ m) (hi : i < 8) : (tail t m bits i).set (m - 1 - i) (UInt8.ofNat (bits / 256 ^ i)) = tail t m bits (i + 1) := by
  have e1 : m - 9 - t.length + (8 - i) = (m - 9 - t.length + (8 - (i + 1))) + 1 := by omega
  have e2 : (be bits).drop (8 - (i + 1)) = UInt8.ofNat (bits / 256 ^ i) :: (be bits).drop (8 - i) := by
    rw [List.drop_eq_getElem_cons (by rw [be_length]; omega), show 8 - (i + 1) + 1 = 8 - i by omega]
    congr 1
    simp only [be, List.getElem_map, List.getElem_range]
    congr 3
    omega
  unfold tail
  rw [e1, e2, List.replicate_succ']
  simp only [List.append_assoc]
  rw [List.set_append_right _ _ (by omega), List.set_append_right _ _ (by simp; omega), List.set_append_right _ _ (by simp; omega)]
  have e3 : m - 1 - i - t.length - [(128 : UInt8)].length - (List.replicate (m - 9 - t.length + (8 - (i + 1))) (0 : UInt8)).length = 0 := by simp; omega
  rw [e3]
  simp
theorem tail_pad (s : List UInt8) (q m : Nat) (h1 : 64 * q ≤ s.length) (h2 : s.length < 64 * q + 64) (hm : m = if 56 ≤ s.length - 64 * q then 128 else 64) : (tail (s.drop (64 * q)) m (8 * s.length) 8).take m = (pad s).drop (64 * q) ∧ (pad s).length = 64 * q + m := by
  have hp := pad_length s
  have hz : zeros s.length = m - 9 - (s.length - 64 * q) := by
    unfold zeros
    have : s.length % 64 = s.length - 64 * q := by omega
    rw [this]
    split at hm <;> omega
  have hle : s.length - 64 * q + 9 ≤ m := by split at hm <;> omega
  refine ⟨?_, by omega⟩
  unfold tail pad
  rw [hz]
  simp only [List.length_drop, Nat.sub_self, Nat.add_zero, List.drop_zero, List.append_assoc]
  rw [List.drop_append_of_le_length h1]
  rw [← List.append_assoc, ← List.append_assoc, ← List.append_assoc, List.take_left' (by simp [be_length]; omega)]
  simp only [List.append_assoc]
theorem blocks_from (v : List W) (b : List UInt8) (q : Nat) : ∀ n, blocks (blocks v b q) (b.drop (64 * q)) n = blocks v b (q + n)
  | 0 => rfl
  | n + 1 => by
    rw [blocks, blocks_from v b q n, List.drop_drop, show 64 * q + 64 * n = 64 * (q + n) by omega]
    rfl
theorem tail_block (s : List UInt8) (q m j : Nat) (h1 : 64 * q ≤ s.length) (h2 : s.length < 64 * q + 64) (hm : m = if 56 ≤ s.length - 64 * q then 128 else 64) (hj : 64 * j + 64 ≤ m) :
    ((tail (s.drop (64 * q)) m (8 * s.length) 8).drop (64 * j)).take 64 = (((pad s).drop (64 * q)).drop (64 * j)).take 64 := by
  rw [← (tail_pad s q m h1 h2 hm).1, List.drop_take, List.take_take, Nat.min_eq_left (by omega)]
theorem sum_is (s : List UInt8) (q m : Nat) (h1 : 64 * q ≤ s.length) (h2 : s.length < 64 * q + 64) (hm : m = if 56 ≤ s.length - 64 * q then 128 else 64) (j : Nat) (hj : 64 * j = m) : out (blocks (blocks H0 s q) ((pad s).drop (64 * q)) j) = sum s := by
  have h := (tail_pad s q m h1 h2 hm).2
  rw [← blocks_pad H0 s h1, blocks_from, sum, show (pad s).length / 64 = q + j by omega]
theorem out_take {v : List W} {i : Nat} (h : i < v.length) : out (v.take (i + 1)) = out (v.take i) ++ [lo8 (v.getD i 0 >>> 24), lo8 (v.getD i 0 >>> 16), lo8 (v.getD i 0 >>> 8), lo8 (v.getD i 0)] := by
  rw [Oct.take_succ 0 h, out, List.flatMap_append]
  rfl
theorem be_take {n k : Nat} (h : k < 8) : (be n).take (k + 1) = (be n).take k ++ [UInt8.ofNat (n / 256 ^ (7 - k))] := by
  rw [Oct.take_succ 0 (by rw [be_length]; exact h)]
  congr 2
  simp [be, List.getD_eq_getElem?_getD, h]
theorem blk_get (L : List UInt8) (a j : Nat) (h : j < 64) : ((L.drop a).take 64).getD j 0 = L.getD (a + j) 0 := by
  simp [List.getD_eq_getElem?_getD, List.getElem?_take, h]
theorem w8_toNat (b : UInt8) : (w8 b).toNat = b.toNat := by
  have := b.toNat_lt
  rw [w8, BitVec.toNat_ofNat]
  exact Nat.mod_eq_of_lt (by omega)
theorem w8_shl (b : UInt8) (k m : Nat) (hm : 2 ^ k = m) (hle : m ≤ 16777216) : (w8 b <<< k).toNat = b.toNat * m := by
  have := b.toNat_lt
  rw [BitVec.toNat_shiftLeft, w8_toNat, Nat.shiftLeft_eq, hm]
  refine Nat.mod_eq_of_lt ?_
  have h1 : b.toNat * m ≤ 255 * 16777216 := Nat.mul_le_mul (by omega) hle
  exact Nat.lt_of_le_of_lt h1 (by decide)
theorem w8_mul (b : UInt8) (m : Nat) (hle : m ≤ 16777216) : (w8 b * BitVec.ofNat 32 m).toNat = b.toNat * m := by
  have := b.toNat_lt
  have e : (BitVec.ofNat 32 m).toNat = m := by rw [BitVec.toNat_ofNat]; exact Nat.mod_eq_of_lt (Nat.lt_of_le_of_lt hle (by decide))
  rw [BitVec.toNat_mul, w8_toNat, e]
  refine Nat.mod_eq_of_lt ?_
  have h1 : b.toNat * m ≤ 255 * 16777216 := Nat.mul_le_mul (by omega) hle
  exact Nat.lt_of_le_of_lt h1 (by decide)
theorem or_add (x y i m : Nat) (hm : 2 ^ i = m) (hy : y < m) : x * m ||| y = x * m + y := by
  subst hm
  rw [Nat.mul_comm]
  exact (Nat.two_pow_add_eq_or_of_lt hy x).symm
theorem mul3a (A B : Nat) : A * 16777216 + B * 65536 = (A * 256 + B) * 65536 := by omega
theorem mul3b (A B C : Nat) : (A * 256 + B) * 65536 + C * 256 = (A * 65536 + B * 256 + C) * 256 := by
  rw [Nat.add_mul (A * 65536 + B * 256), Nat.add_mul (A * 65536), Nat.add_mul, Nat.mul_assoc, Nat.mul_assoc, Nat.mul_assoc]
theorem wd_mul (a b c d : UInt8) : w8 a * BitVec.ofNat 32 16777216 + w8 b * BitVec.ofNat 32 65536 + w8 c * BitVec.ofNat 32 256 + w8 d = w8 a <<< 24 ||| w8 b <<< 16 ||| w8 c <<< 8 ||| w8 d := by
  have ha := a.toNat_lt
  have hb := b.toNat_lt
  have hc := c.toNat_lt
  have hd := d.toNat_lt
  apply BitVec.eq_of_toNat_eq
  rw [BitVec.toNat_or, BitVec.toNat_or, BitVec.toNat_or, w8_shl a 24 16777216 (by decide) (by decide), w8_shl b 16 65536 (by decide) (by decide), w8_shl c 8 256 (by decide) (by decide), w8_toNat d]
  rw [BitVec.toNat_add, BitVec.toNat_add, BitVec.toNat_add, w8_mul a 16777216 (by decide), w8_mul b 65536 (by decide), w8_mul c 256 (by decide), w8_toNat d]
  generalize a.toNat = A at *
  generalize b.toNat = B at *
  generalize c.toNat = C at *
  generalize d.toNat = D at *
  rw [or_add A (B * 65536) 24 16777216 (by decide) (by omega)]
  have f1 := mul3a A B
  rw [f1, or_add (A * 256 + B) (C * 256) 16 65536 (by decide) (by omega)]
  have f2 := mul3b A B C
  rw [f2, or_add (A * 65536 + B * 256 + C) D 8 256 (by decide) (by omega)]
  show (((A * 256 + B) * 65536 % 4294967296 + C * 256) % 4294967296 + D) % 4294967296 = _
  omega
theorem next_comm (a b c d : W) : d + b + c + a = a + b + c + d := by ac_rfl
theorem out_get (v : List W) : ∀ i, i < 4 * v.length → (out v).getD i 0 = lo8 (v.getD (i / 4) 0 >>> (24 - 8 * (i % 4))) := by
  induction v with
  | nil => intro i h; simp at h
  | cons x v ih =>
    intro i h
    have e : out (x :: v) = [lo8 (x >>> 24), lo8 (x >>> 16), lo8 (x >>> 8), lo8 x] ++ out v := rfl
    rw [e]
    match i with
    | 0 => rfl
    | 1 => rfl
    | 2 => rfl
    | 3 => rfl
    | j + 4 =>
      have h1 : ([lo8 (x >>> 24), lo8 (x >>> 16), lo8 (x >>> 8), lo8 x] ++ out v).getD (j + 4) 0 = (out v).getD j 0 := rfl
      rw [h1, ih j (by simp at h; omega), show (j + 4) / 4 = j / 4 + 1 by omega, show (j + 4) % 4 = j % 4 by omega]
      rfl
theorem out_take1 (v : List W) {i : Nat} (h : i < 4 * v.length) : (out v).take (i + 1) = (out v).take i ++ [lo8 (v.getD (i / 4) 0 >>> (24 - 8 * (i % 4)))] := by
  rw [Oct.take_succ 0 (by rw [out_length]; exact h), out_get v i h]
end Go.Sha
