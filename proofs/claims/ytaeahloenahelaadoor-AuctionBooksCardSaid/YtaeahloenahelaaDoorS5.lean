/- Part of a proof about given Go functions: contracts of functions, or plain laws. -/
import Derived.Test.YtaeahloenahelaaDoorS4
import Derived.Test.YtaeahloenahelaaDoorS3
import Derived.Test.YtaeahloenahelaaDoorS1
import Derived.Test.YtaeahloenahelaaDoorS2
import GoSem.Op.String
import Derived.Deep.RegionHeld3
/- The digest, in plain Lean. -/
namespace Go.Sha
open Go.Sx (w8 lo8)
abbrev W := BitVec 32
def rotr (x : W) (n : Nat) : W := x >>> n ||| x <<< (32 - n)
def K : List W := [BitVec.ofNat 32 1116352408, BitVec.ofNat 32 1899447441, BitVec.ofNat 32 3049323471, BitVec.ofNat 32 3921009573, BitVec.ofNat 32 961987163, BitVec.ofNat 32 1508970993, BitVec.ofNat 32 2453635748, BitVec.ofNat 32 2870763221, BitVec.ofNat 32 3624381080, BitVec.ofNat 32 310598401, BitVec.ofNat 32 607225278, BitVec.ofNat 32 1426881987, BitVec.ofNat 32 1925078388, BitVec.ofNat 32 2162078206, BitVec.ofNat 32 2614888103, BitVec.ofNat 32 3248222580, BitVec.ofNat 32 3835390401, BitVec.ofNat 32 4022224774, BitVec.ofNat 32 264347078, BitVec.ofNat 32 604807628, BitVec.ofNat 32 770255983, BitVec.ofNat 32 1249150122, BitVec.ofNat 32 1555081692, BitVec.ofNat 32 1996064986, BitVec.ofNat 32 2554220882, BitVec.ofNat 32 2821834349, BitVec.ofNat 32 2952996808, BitVec.ofNat 32 3210313671, BitVec.ofNat 32 3336571891, BitVec.ofNat 32 3584528711, BitVec.ofNat 32 113926993, BitVec.ofNat 32 338241895, BitVec.ofNat 32 666307205, BitVec.ofNat 32 773529912, BitVec.ofNat 32 1294757372, BitVec.ofNat 32 1396182291, BitVec.ofNat 32 1695183700, BitVec.ofNat 32 1986661051, BitVec.ofNat 32 2177026350, BitVec.ofNat 32 2456956037, BitVec.ofNat 32 2730485921, BitVec.ofNat 32 2820302411, BitVec.ofNat 32 3259730800, BitVec.ofNat 32 3345764771, BitVec.ofNat 32 3516065817, BitVec.ofNat 32 3600352804, BitVec.ofNat 32 4094571909, BitVec.ofNat 32 275423344, BitVec.ofNat 32 430227734, BitVec.ofNat 32 506948616, BitVec.ofNat 32 659060556, BitVec.ofNat 32 883997877, BitVec.ofNat 32 958139571, BitVec.ofNat 32 1322822218, BitVec.ofNat 32 1537002063, BitVec.ofNat 32 1747873779, BitVec.ofNat 32 1955562222, BitVec.ofNat 32 2024104815, BitVec.ofNat 32 2227730452, BitVec.ofNat 32 2361852424, BitVec.ofNat 32 2428436474, BitVec.ofNat 32 2756734187, BitVec.ofNat 32 3204031479, BitVec.ofNat 32 3329325298]
def H0 : List W := [BitVec.ofNat 32 1779033703, BitVec.ofNat 32 3144134277, BitVec.ofNat 32 1013904242, BitVec.ofNat 32 2773480762, BitVec.ofNat 32 1359893119, BitVec.ofNat 32 2600822924, BitVec.ofNat 32 528734635, BitVec.ofNat 32 1541459225]
def wd (b : List UInt8) (i : Nat) : W := w8 (b.getD (4 * i) 0) <<< 24 ||| w8 (b.getD (4 * i + 1) 0) <<< 16 ||| w8 (b.getD (4 * i + 2) 0) <<< 8 ||| w8 (b.getD (4 * i + 3) 0)
def nextW (w : List W) (t : Nat) : W :=
  w.getD (t - 16) 0 + w.getD (t - 7) 0 + (rotr (w.getD (t - 15) 0) 7 ^^^ rotr (w.getD (t - 15) 0) 18 ^^^ w.getD (t - 15) 0 >>> 3) + (rotr (w.getD (t - 2) 0) 17 ^^^ rotr (w.getD (t - 2) 0) 19 ^^^ w.getD (t - 2) 0 >>> 10)
def sched (b : List UInt8) : Nat → List W
  | 0 => []
  | t + 1 => sched b t ++ [if t < 16 then wd b t else nextW (sched b t) t]
theorem sched_length (b : List UInt8) : ∀ t, (sched b t).length = t
  | 0 => rfl
  | t + 1 => by simp [sched, sched_length b t]
theorem sched_wd (b : List UInt8) {t : Nat} (h : t < 16) : sched b (t + 1) = sched b t ++ [wd b t] := by simp [sched, h]
theorem sched_next (b : List UInt8) {t : Nat} (h : ¬ t < 16) : sched b (t + 1) = sched b t ++ [nextW (sched b t) t] := by simp [sched, h]
def sx (v : List W) (k w : W) : W := v.getD 7 0 + (rotr (v.getD 4 0) 6 ^^^ rotr (v.getD 4 0) 11 ^^^ rotr (v.getD 4 0) 25) + (v.getD 4 0 &&& v.getD 5 0 ^^^ ~~~ v.getD 4 0 &&& v.getD 6 0) + k + w
def sy (v : List W) : W := (rotr (v.getD 0 0) 2 ^^^ rotr (v.getD 0 0) 13 ^^^ rotr (v.getD 0 0) 22) + (v.getD 0 0 &&& v.getD 1 0 ^^^ v.getD 0 0 &&& v.getD 2 0 ^^^ v.getD 1 0 &&& v.getD 2 0)
def round (v : List W) (k w : W) : List W := [sx v k w + sy v, v.getD 0 0, v.getD 1 0, v.getD 2 0, v.getD 3 0 + sx v k w, v.getD 4 0, v.getD 5 0, v.getD 6 0]
def rounds (v ws : List W) : Nat → List W
  | 0 => v
  | t + 1 => round (rounds v ws t) (K.getD t 0) (ws.getD t 0)
theorem rounds_length {v ws : List W} (h : v.length = 8) : ∀ t, (rounds v ws t).length = 8
  | 0 => h
  | t + 1 => rfl
/-- The sum's first i words are done. -/
def mix (s v : List W) (i : Nat) : List W := (List.zipWith (· + ·) s v).take i ++ s.drop i
theorem mix_zero (s v : List W) : mix s v 0 = s := by simp [mix]
theorem mix_length {s v : List W} (hs : s.length = 8) (hv : v.length = 8) (i : Nat) : (mix s v i).length = 8 := by simp [mix, hs, hv]; omega
theorem mix_get {s v : List W} (hs : s.length = 8) (hv : v.length = 8) {i : Nat} (h : i < 8) : (mix s v i).getD i 0 = s.getD i 0 := by
  simp [mix, List.getD_eq_getElem?_getD, List.getElem?_append, hs, hv, Nat.min_eq_left (show i ≤ 8 by omega)]
theorem mix_succ {s v : List W} (hs : s.length = 8) (hv : v.length = 8) {i : Nat} (h : i < 8) : (mix s v i).set i (s.getD i 0 + v.getD i 0) = mix s v (i + 1) := by
  have hz : (List.zipWith (· + ·) s v).length = 8 := by simp [hs, hv]
  unfold mix
  rw [List.set_append_right _ _ (by simp [hz]; omega), List.length_take, hz, Nat.min_eq_left (by omega), Nat.sub_self, Oct.take_succ 0 (by omega), List.append_assoc]
  congr 1
  have e : s.drop i = s[i]'(by omega) :: s.drop (i + 1) := List.drop_eq_getElem_cons (by omega)
  rw [e, List.set_cons_zero]
  have e2 : (List.zipWith (· + ·) s v).getD i 0 = s.getD i 0 + v.getD i 0 := by simp [List.getD_eq_getElem?_getD, hs, hv, h]
  rw [e2]
  rfl
theorem mix_all {s v : List W} (hs : s.length = 8) (hv : v.length = 8) : mix s v 8 = List.zipWith (· + ·) s v := by
  simp [mix, hs, hv, List.take_of_length_le, List.drop_eq_nil_of_le]
def block (s : List W) (b : List UInt8) : List W := List.zipWith (· + ·) s (rounds s (sched b 64) 64)
theorem block_length {s : List W} (hs : s.length = 8) (b : List UInt8) : (block s b).length = 8 := by simp [block, hs, rounds_length hs]
def blocks (s : List W) (b : List UInt8) : Nat → List W
  | 0 => s
  | n + 1 => block (blocks s b n) ((b.drop (64 * n)).take 64)
theorem blocks_length {s : List W} (hs : s.length = 8) (b : List UInt8) : ∀ n, (blocks s b n).length = 8
  | 0 => hs
  | n + 1 => block_length (blocks_length hs b n) _
def be (n : Nat) : List UInt8 := (List.range 8).map fun i => UInt8.ofNat (n / 256 ^ (7 - i))
theorem be_length (n : Nat) : (be n).length = 8 := by simp [be]
def zeros (n : Nat) : Nat := (119 - n % 64) % 64
def pad (s : List UInt8) : List UInt8 := s ++ [128] ++ List.replicate (zeros s.length) 0 ++ be (8 * s.length)
def out (v : List W) : List UInt8 := v.flatMap fun (x : W) => [lo8 (x >>> 24), lo8 (x >>> 16), lo8 (x >>> 8), lo8 x]
theorem out_length (v : List W) : (out v).length = 4 * v.length := by
  induction v with
  | nil => rfl
  | cons x v ih => rw [out, List.flatMap_cons, List.length_append]; show 4 + (out v).length = _; rw [ih]; simp; omega
def sum (s : List UInt8) : List UInt8 := out (blocks H0 (pad s) ((pad s).length / 64))
theorem sum_length (s : List UInt8) : (sum s).length = 32 := by rw [sum, out_length, blocks_length rfl]
theorem pad_length (s : List UInt8) : (pad s).length = s.length + 9 + zeros s.length := by simp [pad, be_length]; omega
theorem pad_mod (s : List UInt8) : (pad s).length % 64 = 0 := by rw [pad_length, zeros]; omega
/-- Blocks that lie in the text are the text's. -/
theorem blocks_more (v : List W) (s t : List UInt8) : ∀ n, 64 * n ≤ s.length → blocks v (s ++ t) n = blocks v s n
  | 0, _ => rfl
  | n + 1, h => by
    rw [blocks, blocks, blocks_more v s t n (by omega), List.drop_append_of_le_length (by omega), List.take_append_of_le_length (by simp; omega)]
theorem blocks_pad (v : List W) (s : List UInt8) {n : Nat} (h : 64 * n ≤ s.length) : blocks v (pad s) n = blocks v s n := by
  rw [pad, List.append_assoc, List.append_assoc]
  exact blocks_more v s _ n h

/-! ### The end, as it is laid -/
/-- i bytes of the length are laid. n: how many bytes of the text are left; m: how many bytes are to be taken in. -/
def tail (t : List UInt8) (m bits i : Nat) : List UInt8 := t ++ [128] ++ List.replicate (m - 9 - t.length + (8 - i)) 0 ++ (be bits).drop (8 - i) ++ List.replicate (128 - m) 0
theorem tail_zero (t : List UInt8) (m bits : Nat) (h : t.length + 9 ≤ m) (hm : m ≤ 128) : tail t m bits 0 = t ++ [128] ++ List.replicate (127 - t.length) 0 := by
  simp only [tail, Nat.sub_zero, List.drop_eq_nil_of_le (Nat.le_of_eq (be_length bits)), List.append_nil]
  rw [List.append_assoc (t ++ [128]), List.replicate_append_replicate]
  congr 2
  omega
theorem tail_length (t : List UInt8) (m bits i : Nat) (h : t.length + 9 ≤ m) (hm : m ≤ 128) (hi : i ≤ 8) : (tail t m bits i).length = 128 := by
  simp [tail, be_length]; omega
theorem tail_succ (t : List UInt8) (m bits i : Nat) (h : t.length + 9 ≤ m) (hi : i < 8) : (tail t m bits i).set (m - 1 - i) (UInt8.ofNat (bits / 256 ^ i)) = tail t m bits (i + 1) := by
  have e1 : m - 9 - t.length + (8 - i) = (m - 9 - t.length + (8 - (i + 1))) + 1 := by omega
  have e2 : (be bits).drop (8 - (i + 1)) = UInt8.ofNat (bits / 256 ^ i) :: (be bits).drop (8 - i) := by
    rw [List.drop_eq_getElem_cons (by rw [be_length]; omega), show 8 - (i + 1) + 1 = 8 - i by omega]
    congr 1
    simp only [be, List.getElem_map, List.getElem_range]
    congr 3
    omega
  unfold tail
  rw [e1, e2, List.replicate_succ']
  simp only [List.append_assoc]
  rw [List.set_append_right _ _ (by omega), List.set_append_right _ _ (by simp; omega), List.set_append_right _ _ (by simp; omega)]
  have e3 : m - 1 - i - t.length - [(128 : UInt8)].length - (List.replicate (m - 9 - t.length + (8 - (i + 1))) (0 : UInt8)).length = 0 := by simp; omega
  rw [e3]
  simp
theorem tail_pad (s : List UInt8) (q m : Nat) (h1 : 64 * q ≤ s.length) (h2 : s.length < 64 * q + 64) (hm : m = if 56 ≤ s.length - 64 * q then 128 else 64) : (tail (s.drop (64 * q)) m (8 * s.length) 8).take m = (pad s).drop (64 * q) ∧ (pad s).length = 64 * q + m := by
  have hp := pad_length s
  have hz : zeros s.length = m - 9 - (s.length - 64 * q) := by
    unfold zeros
    have : s.length % 64 = s.length - 64 * q := by omega
    rw [this]
    split at hm <;> omega
  have hle : s.length - 64 * q + 9 ≤ m := by split at hm <;> omega
  refine ⟨?_, by omega⟩
  unfold tail pad
  rw [hz]
  simp only [List.length_drop, Nat.sub_self, Nat.add_zero, List.drop_zero, List.append_assoc]
  rw [List.drop_append_of_le_length h1]
  rw [← List.append_assoc, ← List.append_assoc, ← List.append_assoc, List.take_left' (by simp [be_length]; omega)]
  simp only [List.append_assoc]
theorem blocks_from (v : List W) (b : List UInt8) (q : Nat) : ∀ n, blocks (blocks v b q) (b.drop (64 * q)) n = blocks v b (q + n)
  | 0 => rfl
  | n + 1 => by
    rw [blocks, blocks_from v b q n, List.drop_drop, show 64 * q + 64 * n = 64 * (q + n) by omega]
    rfl
theorem tail_block (s : List UInt8) (q m j : Nat) (h1 : 64 * q ≤ s.length) (h2 : s.length < 64 * q + 64) (hm : m = if 56 ≤ s.length - 64 * q then 128 else 64) (hj : 64 * j + 64 ≤ m) :
    ((tail (s.drop (64 * q)) m (8 * s.length) 8).drop (64 * j)).take 64 = (((pad s).drop (64 * q)).drop (64 * j)).take 64 := by
  rw [← (tail_pad s q m h1 h2 hm).1, List.drop_take, List.take_take, Nat.min_eq_left (by omega)]
theorem sum_is (s : List UInt8) (q m : Nat) (h1 : 64 * q ≤ s.length) (h2 : s.length < 64 * q + 64) (hm : m = if 56 ≤ s.length - 64 * q then 128 else 64) (j : Nat) (hj : 64 * j = m) : out (blocks (blocks H0 s q) ((pad s).drop (64 * q)) j) = sum s := by
  have h := (tail_pad s q m h1 h2 hm).2
  rw [← blocks_pad H0 s h1, blocks_from, sum, show (pad s).length / 64 = q + j by omega]
theorem out_take {v : List W} {i : Nat} (h : i < v.length) : out (v.take (i + 1)) = out (v.take i) ++ [lo8 (v.getD i 0 >>> 24), lo8 (v.getD i 0 >>> 16), lo8 (v.getD i 0 >>> 8), lo8 (v.getD i 0)] := by
  rw [Oct.take_succ 0 h, out, List.flatMap_append]
  rfl
theorem be_take {n k : Nat} (h : k < 8) : (be n).take (k + 1) = (be n).take k ++ [UInt8.ofNat (n / 256 ^ (7 - k))] := by
  rw [Oct.take_succ 0 (by rw [be_length]; exact h)]
  congr 2
  simp [be, List.getD_eq_getElem?_getD, h]
theorem blk_get (L : List UInt8) (a j : Nat) (h : j < 64) : ((L.drop a).take 64).getD j 0 = L.getD (a + j) 0 := by
  simp [List.getD_eq_getElem?_getD, List.getElem?_take, h]
theorem w8_toNat (b : UInt8) : (w8 b).toNat = b.toNat := by
  have := b.toNat_lt
  rw [w8, BitVec.toNat_ofNat]
  exact Nat.mod_eq_of_lt (by omega)
theorem w8_shl (b : UInt8) (k m : Nat) (hm : 2 ^ k = m) (hle : m ≤ 16777216) : (w8 b <<< k).toNat = b.toNat * m := by
  have := b.toNat_lt
  rw [BitVec.toNat_shiftLeft, w8_toNat, Nat.shiftLeft_eq, hm]
  refine Nat.mod_eq_of_lt ?_
  have h1 : b.toNat * m ≤ 255 * 16777216 := Nat.mul_le_mul (by omega) hle
  exact Nat.lt_of_le_of_lt h1 (by decide)
theorem w8_mul (b : UInt8) (m : Nat) (hle : m ≤ 16777216) : (w8 b * BitVec.ofNat 32 m).toNat = b.toNat * m := by
  have := b.toNat_lt
  have e : (BitVec.ofNat 32 m).toNat = m := by rw [BitVec.toNat_ofNat]; exact Nat.mod_eq_of_lt (Nat.lt_of_le_of_lt hle (by decide))
  rw [BitVec.toNat_mul, w8_toNat, e]
  refine Nat.mod_eq_of_lt ?_
  have h1 : b.toNat * m ≤ 255 * 16777216 := Nat.mul_le_mul (by omega) hle
  exact Nat.lt_of_le_of_lt h1 (by decide)
theorem or_add (x y i m : Nat) (hm : 2 ^ i = m) (hy : y < m) : x * m ||| y = x * m + y := by
  subst hm
  rw [Nat.mul_comm]
  exact (Nat.two_pow_add_eq_or_of_lt hy x).symm
theorem mul3a (A B : Nat) : A * 16777216 + B * 65536 = (A * 256 + B) * 65536 := by omega
theorem mul3b (A B C : Nat) : (A * 256 + B) * 65536 + C * 256 = (A * 65536 + B * 256 + C) * 256 := by
  rw [Nat.add_mul (A * 65536 + B * 256), Nat.add_mul (A * 65536), Nat.add_mul, Nat.mul_assoc, Nat.mul_assoc, Nat.mul_assoc]
theorem wd_mul (a b c d : UInt8) : w8 a * BitVec.ofNat 32 16777216 + w8 b * BitVec.ofNat 32 65536 + w8 c * BitVec.ofNat 32 256 + w8 d = w8 a <<< 24 ||| w8 b <<< 16 ||| w8 c <<< 8 ||| w8 d := by
  have ha := a.toNat_lt
  have hb := b.toNat_lt
  have hc := c.toNat_lt
  have hd := d.toNat_lt
  apply BitVec.eq_of_toNat_eq
  rw [BitVec.toNat_or, BitVec.toNat_or, BitVec.toNat_or, w8_shl a 24 16777216 (by decide) (by decide), w8_shl b 16 65536 (by decide) (by decide), w8_shl c 8 256 (by decide) (by decide), w8_toNat d]
  rw [BitVec.toNat_add, BitVec.toNat_add, BitVec.toNat_add, w8_mul a 16777216 (by decide), w8_mul b 65536 (by decide), w8_mul c 256 (by decide), w8_toNat d]
  generalize a.toNat = A at *
  generalize b.toNat = B at *
  generalize c.toNat = C at *
  generalize d.toNat = D at *
  rw [or_add A (B * 65536) 24 16777216 (by decide) (by omega)]
  have f1 := mul3a A B
  rw [f1, or_add (A * 256 + B) (C * 256) 16 65536 (by decide) (by omega)]
  have f2 := mul3b A B C
  rw [f2, or_add (A * 65536 + B * 256 + C) D 8 256 (by decide) (by omega)]
  show (((A * 256 + B) * 65536 % 4294967296 + C * 256) % 4294967296 + D) % 4294967296 = _
  omega
theorem next_comm (a b c d : W) : d + b + c + a = a + b + c + d := by ac_rfl
theorem out_get (v : List W) : ∀ i, i < 4 * v.length → (out v).getD i 0 = lo8 (v.getD (i / 4) 0 >>> (24 - 8 * (i % 4))) := by
  induction v with
  | nil => intro i h; simp at h
  | cons x v ih =>
    intro i h
    have e : out (x :: v) = [lo8 (x >>> 24), lo8 (x >>> 16), lo8 (x >>> 8), lo8 x] ++ out v := rfl
    rw [e]
    match i with
    | 0 => rfl
    | 1 => rfl
    | 2 => rfl
    | 3 => rfl
    | j + 4 =>
      have h1 : ([lo8 (x >>> 24), lo8 (x >>> 16), lo8 (x >>> 8), lo8 x] ++ out v).getD (j + 4) 0 = (out v).getD j 0 := rfl
      rw [h1, ih j (by simp at h; omega), show (j + 4) / 4 = j / 4 + 1 by omega, show (j + 4) % 4 = j % 4 by omega]
      rfl
theorem out_take1 (v : List W) {i : Nat} (h : i < 4 * v.length) : (out v).take (i + 1) = (out v).take i ++ [lo8 (v.getD (i / 4) 0 >>> (24 - 8 * (i % 4)))] := by
  rw [Oct.take_succ 0 (by rw [out_length]; exact h), out_get v i h]
end Go.Sha

/- Keys and tags, in plain Lean. -/
namespace Go.Seal
def Z : List UInt8 := List.replicate 32 0
def key (who : Int) : List UInt8 × Int := if who < 0 ∨ 64 < who then (Z, 20) else (Sha.sum ([107, 101, 121] ++ (Oct.number who).1), 0)
def tag (who dom : Int) (body : List UInt8) : List UInt8 × Int :=
  if (key who).2 ≠ 0 then (Z, (key who).2) else if dom < 1 ∨ 4 < dom then (Z, 2) else (Sha.sum ((key who).1 ++ ([UInt8.ofNat dom.toNat] ++ body)), 0)
def check (who dom : Int) (body t : List UInt8) : Int := if (tag who dom body).2 ≠ 0 then (tag who dom body).2 else if (tag who dom body).1 ≠ t then 21 else 0
theorem key_bad {who : Int} (h : who < 0 ∨ 64 < who) : key who = (Z, 20) := by unfold key; rw [if_pos h]
theorem key_ok {who : Int} (h : ¬ (who < 0 ∨ 64 < who)) : key who = (Sha.sum ([107, 101, 121] ++ (Oct.number who).1), 0) := by unfold key; rw [if_neg h]
theorem key_len (who : Int) : (key who).1.length = 32 := by
  unfold key
  split
  · rfl
  · exact Sha.sum_length _
theorem tag_err {who dom : Int} {body : List UInt8} (h : (key who).2 ≠ 0) : tag who dom body = (Z, (key who).2) := by unfold tag; rw [if_pos h]
theorem tag_dom {who dom : Int} {body : List UInt8} (h : (key who).2 = 0) (h1 : dom < 1 ∨ 4 < dom) : tag who dom body = (Z, 2) := by unfold tag; rw [if_neg (by omega), if_pos h1]
theorem tag_ok {who dom : Int} {body : List UInt8} (h : (key who).2 = 0) (h1 : ¬ (dom < 1 ∨ 4 < dom)) : tag who dom body = (Sha.sum ((key who).1 ++ ([UInt8.ofNat dom.toNat] ++ body)), 0) := by unfold tag; rw [if_neg (by omega), if_neg h1]
theorem tag_len (who dom : Int) (body : List UInt8) : (tag who dom body).1.length = 32 := by
  unfold tag
  split
  · rfl
  · split
    · rfl
    · exact Sha.sum_length _
theorem check_err {who dom : Int} {body t : List UInt8} (h : (tag who dom body).2 ≠ 0) : check who dom body t = (tag who dom body).2 := by unfold check; rw [if_pos h]
theorem check_bad {who dom : Int} {body t : List UInt8} (h : (tag who dom body).2 = 0) (h1 : (tag who dom body).1 ≠ t) : check who dom body t = 21 := by unfold check; rw [if_neg (by omega), if_pos h1]
theorem check_ok {who dom : Int} {body t : List UInt8} (h : (tag who dom body).2 = 0) (h1 : (tag who dom body).1 = t) : check who dom body t = 0 := by unfold check; rw [if_neg (by omega), if_neg (by simp [h1])]
theorem blen_small {m : Nat} (h0 : 0 < m) (h : m < 256) : Oct.blen m = 1 := Oct.blen_eq 1 m (by simpa using h) (.inr (by simp; omega))
theorem num0 : (Oct.number 0).1 = [0] := by decide
theorem num1 {who : Int} (h0 : 0 < who) (h : who < 256) : (Oct.number who).1 = [1, UInt8.ofNat who.toNat] := by
  unfold Oct.number
  rw [if_neg (by omega)]
  show Oct.numL who.toNat = _
  unfold Oct.numL
  rw [blen_small (by omega) (by omega)]
  simp [Oct.lows]
end Go.Seal

/- Bids, receipts, batches and items as bytes, in plain Lean. -/
namespace Go.Note
def okNum (n : Int) : Bool := decide (0 ≤ n ∧ n ≤ 1099511627776)
def nums (l : List Int) : Bool := l.all okNum
def num (n : Int) : List UInt8 := (Oct.number n).1
/-- A list that is all of a text. -/
def whole (s : List UInt8) : List (List UInt8) × Int := if (Oct.rdl s 0).2.2 ≠ 0 then ([], (Oct.rdl s 0).2.2) else if (Oct.rdl s 0).2.1 < s.length then ([], 6) else ((Oct.rdl s 0).1, 0)
/-- A number that is all of a text. -/
def wn (t : List UInt8) : Int × Int := if (Oct.rdn t 0).2.2 ≠ 0 then (0, (Oct.rdn t 0).2.2) else if (Oct.rdn t 0).2.1 < t.length then (0, 6) else ((Oct.rdn t 0).1, 0)
def okn (t : List UInt8) : Bool := decide ((wn t).2 = 0)
/-- The first k of some texts as numbers. -/
def first (L : List (List UInt8)) (k : Nat) : Option (List Int) := if L.length < k then none else if (L.take k).all okn then some ((L.take k).map fun t => (wn t).1) else none
def Z : List UInt8 := List.replicate 32 0
structure Bid where
  round : Int
  who : Int
  amount : Int
  salt : Int
  tag : List UInt8
def Bid.zero : Bid := ⟨0, 0, 0, 0, Z⟩
def Bid.ok (b : Bid) : Bool := nums [b.round, b.who, b.amount, b.salt] && decide (b.who < 64)
def Bid.said (b : Bid) : List UInt8 := (Oct.list [num b.round, num b.who, num b.amount, num b.salt]).1
def writeBid (b : Bid) : List UInt8 × Int := if b.ok then Oct.list [num b.round, num b.who, num b.amount, num b.salt, b.tag] else ([], 2)
def signBid (b : Bid) : Bid × Int := if b.ok then ({ b with tag := (Seal.tag b.who 3 b.said).1 }, 0) else (Bid.zero, 2)
def checkBid (b : Bid) : Int := if b.ok then (if (Seal.tag b.who 3 b.said).1 = b.tag then 0 else 21) else 2
structure Receipt where
  index : Int
  kind : Int
  time : Int
  body : List UInt8
  prev : List UInt8
  hash : List UInt8
def Receipt.zero : Receipt := ⟨0, 0, 0, [], Z, Z⟩
def Receipt.ok (r : Receipt) : Bool := nums [r.index, r.time] && decide (r.kind = 1 ∨ r.kind = 2) && decide (r.body.length ≤ 656)
structure Part where
  delayed : Bool
  text : List UInt8
def Part.ok (p : Part) : Bool := if p.delayed then decide (p.text = []) else decide (p.text.length ≤ 656)
def Part.laid (p : Part) : List UInt8 := if p.delayed then [2] else 1 :: p.text
structure Batch where
  seq : Int
  first : Int
  before : Int
  parts : List Part
def Batch.zero : Batch := ⟨0, 0, 0, []⟩
/-- A part's text, read. -/
def part (t : List UInt8) : Option Part :=
  if t = [2] then some ⟨true, []⟩ else if t.getD 0 0 = 1 ∧ t ≠ [] ∧ t.length ≤ 657 then some ⟨false, t.drop 1⟩ else none
def parts (l : List (List UInt8)) : Option (List Part) := l.mapM part
structure Item where
  kind : Int
  who : Int
  n : Int
  text : List UInt8
def Item.zero : Item := ⟨0, 0, 0, []⟩
def Item.ok (i : Item) : Bool := nums [i.who, i.n] && decide (i.who ≤ 64) && decide (i.text.length ≤ 65472) && (if i.kind = 1 ∨ i.kind = 3 then decide (i.n = 0) else if i.kind = 2 then decide (i.who = 0) && decide (i.text = []) else false)
/-! ### Small laws for the walks -/
theorem nums_bad {l : List Int} {k : Nat} (h : k < l.length) (hx : ¬ (0 ≤ l.getD k 0 ∧ l.getD k 0 ≤ 1099511627776)) : nums l = false := by
  unfold nums
  rw [List.all_eq_false]
  refine ⟨l.getD k 0, ?_, by simp only [okNum, decide_eq_true_eq]; exact hx⟩
  rw [Oct.getD_eq 0 h]
  exact List.getElem_mem h
theorem take_all {α : Type} {f : α → Bool} {l : List α} {k : Nat} (d : α) (h : k < l.length) (ht : (l.take k).all f = true) (hx : f (l.getD k d) = true) : (l.take (k + 1)).all f = true := by
  rw [Oct.take_succ d h, List.all_append, ht, List.all_cons, hx]
  rfl
theorem nums_all {l : List Int} {k : Nat} (h : l.length ≤ k) (ht : (l.take k).all okNum = true) : nums l = true := by
  rw [List.take_of_length_le h] at ht
  exact ht
theorem tag_good {who : Int} (body : List UInt8) (h : 0 ≤ who) (h2 : who < 64) : (Seal.tag who 3 body).2 = 0 := by
  rw [Seal.tag_ok (by rw [Seal.key_ok (by omega)]) (by omega)]
theorem ok_who {b : Bid} (h : b.ok = true) : (0 ≤ b.round ∧ b.round ≤ 1099511627776) ∧ (0 ≤ b.who ∧ b.who < 64) ∧ (0 ≤ b.amount ∧ b.amount ≤ 1099511627776) ∧ (0 ≤ b.salt ∧ b.salt ≤ 1099511627776) := by
  simp [Bid.ok, nums, okNum] at h
  omega
end Go.Note
namespace Go.Note
theorem list_bad {l : List (List UInt8)} (h : (Oct.list l).2 ≠ 0) : Oct.list l = ([], 3) := by
  unfold Oct.list at h ⊢
  split
  · rfl
  · rename_i h1; rw [if_neg h1] at h; exact absurd rfl h
theorem list_fine {l : List (List UInt8)} (h : ¬ (Oct.list l).2 ≠ 0) : Oct.list l = ((Oct.list l).1, 0) := by
  have : (Oct.list l).2 = 0 := Decidable.not_not.1 h
  rw [← this]
theorem Z_len : Z.length = 32 := rfl
end Go.Note
namespace Go.Note
theorem tagl (b : Bid) : (if b.ok then (Seal.tag b.who 3 b.said).1 else Z).length = 32 := by
  split
  · exact Seal.tag_len _ _ _
  · rfl
end Go.Note
namespace Go.Note
theorem three {α : Type} {l : List α} (h : l.length = 3) : ∃ a b c, l = [a, b, c] := by
  match l, h with
  | [a, b, c], _ => exact ⟨a, b, c, rfl⟩
end Go.Note
namespace Go.Note
instance : DecidableEq Bid := fun x y => decidable_of_iff (x.round = y.round ∧ x.who = y.who ∧ x.amount = y.amount ∧ x.salt = y.salt ∧ x.tag = y.tag) (by cases x; cases y; simp)
instance : DecidableEq Receipt := fun x y => decidable_of_iff (x.index = y.index ∧ x.kind = y.kind ∧ x.time = y.time ∧ x.body = y.body ∧ x.prev = y.prev ∧ x.hash = y.hash) (by cases x; cases y; simp)
instance : DecidableEq Part := fun x y => decidable_of_iff (x.delayed = y.delayed ∧ x.text = y.text) (by cases x; cases y; simp)
instance : DecidableEq Item := fun x y => decidable_of_iff (x.kind = y.kind ∧ x.who = y.who ∧ x.n = y.n ∧ x.text = y.text) (by cases x; cases y; simp)
instance : DecidableEq Batch := fun x y => decidable_of_iff (x.seq = y.seq ∧ x.first = y.first ∧ x.before = y.before ∧ x.parts = y.parts) (by cases x; cases y; simp)
theorem Bid.ok_is (b : Bid) : b.ok = decide ((0 ≤ b.round ∧ b.round ≤ 1099511627776) ∧ (0 ≤ b.who ∧ b.who ≤ 63) ∧ (0 ≤ b.amount ∧ b.amount ≤ 1099511627776) ∧ (0 ≤ b.salt ∧ b.salt ≤ 1099511627776)) := by
  simp only [Bid.ok, nums, okNum, List.all_cons, List.all_nil, Bool.and_true]
  rw [Bool.eq_iff_iff]
  simp only [Bool.and_eq_true, decide_eq_true_eq]
  omega
theorem nums2 (a b : Int) : nums [a, b] = decide ((0 ≤ a ∧ a ≤ 1099511627776) ∧ (0 ≤ b ∧ b ≤ 1099511627776)) := by
  simp only [nums, okNum, List.all_cons, List.all_nil, Bool.and_true]
  rw [Bool.eq_iff_iff]
  simp only [Bool.and_eq_true, decide_eq_true_eq]
theorem Receipt.ok_is (r : Receipt) : r.ok = decide (((0 ≤ r.index ∧ r.index ≤ 1099511627776) ∧ (0 ≤ r.time ∧ r.time ≤ 1099511627776)) ∧ (r.kind = 1 ∨ r.kind = 2) ∧ r.body.length ≤ 656) := by
  rw [Receipt.ok, nums2, Bool.eq_iff_iff]
  simp only [Bool.and_eq_true, decide_eq_true_eq]
  omega
theorem Item.ok_is (i : Item) : i.ok = decide (((0 ≤ i.who ∧ i.who ≤ 64) ∧ (0 ≤ i.n ∧ i.n ≤ 1099511627776)) ∧ i.text.length ≤ 65472 ∧ ((i.kind = 1 ∨ i.kind = 3) ∧ i.n = 0 ∨ i.kind = 2 ∧ i.who = 0 ∧ i.text.length = 0)) := by
  rw [Item.ok, nums2, Bool.eq_iff_iff]
  by_cases h1 : i.kind = 1 ∨ i.kind = 3
  · simp only [Bool.and_eq_true, decide_eq_true_eq, if_pos h1]
    omega
  · by_cases h2 : i.kind = 2
    · simp only [Bool.and_eq_true, decide_eq_true_eq, if_neg h1, if_pos h2, List.length_eq_zero_iff]
      rw [h2]
      exact ⟨fun ⟨⟨⟨h3, h4⟩, h5⟩, h6, h7⟩ => ⟨⟨⟨h3.1.1, h4⟩, h3.2⟩, h5, .inr ⟨rfl, h6, h7⟩⟩, fun ⟨h3, h5, h6⟩ => by
        rcases h6 with h6 | ⟨_, h6, h7⟩
        · omega
        · exact ⟨⟨⟨⟨⟨h3.1.1, by omega⟩, h3.2⟩, h3.1.2⟩, h5⟩, h6, h7⟩⟩
    · simp only [Bool.and_eq_true, decide_eq_true_eq, if_neg h1, if_neg h2]
      simp only [h1, h2, false_and, or_self, and_false, Bool.false_eq_true]
theorem sign_len (b : Bid) : (signBid b).1.tag.length = 32 := by
  unfold signBid
  split
  · exact Seal.tag_len _ _ _
  · rfl
end Go.Note
namespace Go.Note
theorem check_err {b : Bid} (h : (signBid b).2 ≠ 0) : (signBid b).2 = checkBid b := by
  unfold signBid checkBid at *
  split
  · rename_i h1; rw [if_pos h1] at h; exact absurd rfl h
  · rfl
theorem check_bad {b : Bid} (h : (signBid b).2 = 0) (h1 : (signBid b).1 ≠ b) : checkBid b = 21 := by
  unfold signBid checkBid at *
  by_cases hk : b.ok = true
  · rw [if_pos hk] at *
    rw [if_neg]
    intro e
    apply h1
    cases b
    simp only at e
    simp [e]
  · rw [if_neg hk] at h
    simp at h
theorem check_good {b : Bid} (h : (signBid b).2 = 0) (h1 : ¬ (signBid b).1 ≠ b) : checkBid b = 0 := by
  have h1 := Decidable.not_not.1 h1
  unfold signBid checkBid at *
  by_cases hk : b.ok = true
  · rw [if_pos hk] at *
    rw [if_pos]
    have := congrArg Bid.tag h1
    exact this
  · rw [if_neg hk] at h
    simp at h
end Go.Note
namespace Go.Note
theorem Part.ok_is (p : Part) : p.ok = decide ((p.delayed = true → p.text.length = 0) ∧ (p.delayed = false → p.text.length ≤ 656)) := by
  unfold Part.ok
  cases p.delayed <;> simp
end Go.Note
namespace Go.Note
end Go.Note
namespace Go.Note
theorem Batch.same {x y : Batch} (h1 : x.seq = y.seq) (h2 : x.first = y.first) (h3 : x.before = y.before) (h4 : x.parts = y.parts) : x = y := by
  cases x
  cases y
  simp only at *
  subst h1 h2 h3 h4
  rfl
end Go.Note
namespace Go.Note
end Go.Note

/- What comes at any rate; small laws on what is read. -/
namespace Go.Note
def b0 : Bid := ⟨1, 2, 3, 0, Z⟩
theorem sign_ok {b : Bid} (h : b.ok = true) : signBid b = (⟨b.round, b.who, b.amount, b.salt, (Seal.tag b.who 3 b.said).1⟩, 0) := by unfold signBid; rw [if_pos h]
theorem sign_still {b : Bid} (h : b.ok = true) : (signBid b).1.ok = true := by rw [sign_ok h]; exact h
theorem check_sign {b : Bid} (h : b.ok = true) : checkBid (signBid b).1 = 0 := by
  have h1 := sign_still h
  unfold checkBid
  rw [if_pos h1, if_pos]
  rw [sign_ok h]
  rfl
theorem num0 : num 0 = [0] := by decide
theorem num1 : num 1 = [1, 1] := by unfold num; rw [Seal.num1 (by omega) (by omega)]; rfl
theorem wbid_len {b : Bid} : (writeBid b).1.length ≤ 80000 := by
  unfold writeBid
  split
  · exact Oct.list_len
  · simp
end Go.Note

/- The inbox's messages and calls, in plain Lean. -/
namespace Go.Inbox
open Go.Note
structure Block where
  number : Int
  salt : Int
  parent : List UInt8
  items : List Note.Item
structure Entry where
  who : Int
  text : List UInt8
  block : Int
  acc : List UInt8
instance : DecidableEq Entry := fun x y => decidable_of_iff (x.who = y.who ∧ x.text = y.text ∧ x.block = y.block ∧ x.acc = y.acc) (by cases x; cases y; simp)
def Entry.zero : Entry := ⟨0, [], 0, Z⟩
/-- A message, as an item. -/
def isMsg (i : Note.Item) : Bool := i.ok && decide (i.kind = 1) && decide (i.text.length ≤ 640)
def next (acc : List UInt8) (who : Int) (text : List UInt8) : List UInt8 := Sha.sum (acc ++ (Oct.list [num who, text]).1)
/-- Messages of items: what stands for all, and the entries. -/
def step (block : Int) (s : List UInt8 × List Entry) (i : Note.Item) : List UInt8 × List Entry := if isMsg i then (next s.1 i.who i.text, s.2 ++ [⟨i.who, i.text, block, next s.1 i.who i.text⟩]) else s
def blockStep (s : List UInt8 × List Entry) (b : Block) : List UInt8 × List Entry := b.items.foldl (step b.number) s
def run (s : List UInt8 × List Entry) (l : List Block) : List UInt8 × List Entry := l.foldl blockStep s
def messages (l : List Block) : List Entry := (run (Z, []) l).2
/-! ### Laws -/
theorem step_yes {block : Int} {s : List UInt8 × List Entry} {i : Note.Item} (h : isMsg i = true) : step block s i = (next s.1 i.who i.text, s.2 ++ [⟨i.who, i.text, block, next s.1 i.who i.text⟩]) := by unfold step; rw [if_pos h]
theorem step_no {block : Int} {s : List UInt8 × List Entry} {i : Note.Item} (h : isMsg i = false) : step block s i = s := by unfold step; rw [if_neg (by rw [h]; decide)]
/-! ### Reach -/
end Go.Inbox

/- The auction, in plain Lean. -/
namespace Go.Auction
open Go.Note
def name (b : Bid) : List UInt8 := Sha.sum (writeBid b).1 ++ (writeBid b).1
def has (funds : List Int) (b : Bid) : Int := if b.who < (funds.length : Int) then funds.getD b.who.toNat 0 else 0
def good (round floor : Int) (b : Bid) : Prop := checkBid b = 0 ∧ b.round = round ∧ floor ≤ b.amount
def fresh (out : List Bid) (b : Bid) : Prop := ∀ x ∈ out, x.who ≠ b.who
instance (round floor : Int) (b : Bid) : Decidable (good round floor b) := by unfold good; infer_instance
instance (out : List Bid) (b : Bid) : Decidable (fresh out b) := by unfold fresh; infer_instance
def step (funds : List Int) (round floor : Int) (out : List Bid) (b : Bid) : List Bid := if good round floor b ∧ fresh out b ∧ b.amount ≤ has funds b then out ++ [b] else out
/-- The bids that count. -/
def counts (l : List Bid) (funds : List Int) (round floor : Int) : List Bid := l.foldl (step funds round floor) []
def ahead (a b : Bid) : Bool := decide (b.amount < a.amount) || (decide (a.amount = b.amount) && Op.bytesLess (name a) (name b))
/-- The best of the first so many. -/
def best (l : List Bid) : Nat → Nat
  | 0 => 0
  | i + 1 => if i = 0 then 0 else if ahead (l.getD i Bid.zero) (l.getD (best l i) Bid.zero) = true then i else best l i
/-- The price, after so many, without one. -/
def price (l : List Bid) (k : Nat) (floor : Int) : Nat → Int
  | 0 => floor
  | i + 1 => if i = k then price l k floor i else max (price l k floor i) (l.getD i Bid.zero).amount
structure Win where
  bid : Bid
  price : Int
instance : DecidableEq Win := fun x y => decidable_of_iff (x.bid = y.bid ∧ x.price = y.price) (by cases x; cases y; simp)
def Win.zero : Win := ⟨Bid.zero, 0⟩
def winOf (all : List Bid) (floor : Int) : Win × Bool := if all.length = 0 then (Win.zero, false) else (⟨all.getD (best all all.length) Bid.zero, price all (best all all.length) floor all.length⟩, true)
def win (l : List Bid) (funds : List Int) (round floor : Int) : Win × Bool := winOf (counts l funds round floor) floor
/-! ### Orders of texts -/
theorem less_app : ∀ (x y s t : List UInt8), x.length = y.length → Op.bytesLess (x ++ s) (y ++ t) = (Op.bytesLess x y || (decide (x = y) && Op.bytesLess s t))
  | [], [], s, t, _ => by simp [Op.bytesLess]
  | a :: x, b :: y, s, t, h => by
    have ih := less_app x y s t (by simpa using h)
    simp only [List.cons_append, Op.bytesLess, ih]
    by_cases hab : a = b
    · subst hab
      simp
    · have : (a == b) = false := by simpa using hab
      rw [this]
      simp [hab]
theorem name_less (a b : Bid) : Op.bytesLess (name a) (name b) = (Op.bytesLess (Sha.sum (writeBid a).1) (Sha.sum (writeBid b).1) || (decide (Sha.sum (writeBid a).1 = Sha.sum (writeBid b).1) && Op.bytesLess (writeBid a).1 (writeBid b).1)) :=
  less_app _ _ _ _ (by rw [Sha.sum_length, Sha.sum_length])
/-! ### The best -/
theorem best_lt (l : List Bid) : ∀ i, 0 < i → best l i < i
  | 0, h => absurd h (by omega)
  | i + 1, _ => by
    unfold best
    split
    · omega
    · split
      · omega
      · have := best_lt l i (by omega); omega
theorem best_yes {l : List Bid} {i : Nat} (h : 0 < i) (ha : ahead (l.getD i Bid.zero) (l.getD (best l i) Bid.zero) = true) : best l (i + 1) = i := by
  show (if i = 0 then 0 else if _ then i else best l i) = i
  rw [if_neg (by omega), if_pos ha]
theorem best_no {l : List Bid} {i : Nat} (h : 0 < i) (ha : ¬ ahead (l.getD i Bid.zero) (l.getD (best l i) Bid.zero) = true) : best l (i + 1) = best l i := by
  show (if i = 0 then 0 else if _ then i else best l i) = best l i
  rw [if_neg (by omega), if_neg ha]
/-! ### The price -/
/-! ### Those that count -/
theorem counts_snoc (l : List Bid) (x : Bid) (funds : List Int) (round floor : Int) : counts (l ++ [x]) funds round floor = step funds round floor (counts l funds round floor) x := by simp [counts]
theorem counts_take {l : List Bid} {k : Nat} (h : k < l.length) (funds : List Int) (round floor : Int) : counts (l.take (k + 1)) funds round floor = step funds round floor (counts (l.take k) funds round floor) (l.getD k Bid.zero) := by
  rw [Oct.take_succ Bid.zero h, counts_snoc]
theorem step_no {funds : List Int} {round floor : Int} {out : List Bid} {b : Bid} (h : ¬ (good round floor b ∧ fresh out b ∧ b.amount ≤ has funds b)) : step funds round floor out b = out := by unfold step; rw [if_neg h]
theorem step_yes {funds : List Int} {round floor : Int} {out : List Bid} {b : Bid} (h : good round floor b ∧ fresh out b ∧ b.amount ≤ has funds b) : step funds round floor out b = out ++ [b] := by unfold step; rw [if_pos h]
theorem check_ok {b : Bid} (h : checkBid b = 0) : b.ok = true := by
  unfold checkBid at h
  split at h
  · assumption
  · omega
structure Fine (round floor : Int) (all : List Bid) : Prop where
  good : ∀ b ∈ all, Auction.good round floor b
  one : ∀ i j, i < all.length → j < all.length → (all.getD i Bid.zero).who = (all.getD j Bid.zero).who → i = j
theorem fine_step {funds : List Int} {round floor : Int} {out : List Bid} (h : Fine round floor out) (b : Bid) : Fine round floor (step funds round floor out b) := by
  unfold step
  split
  · rename_i hb
    refine ⟨fun x hx => ?_, fun i j hi hj e => ?_⟩
    · rcases List.mem_append.1 hx with hx | hx
      · exact h.good x hx
      · rw [List.mem_singleton.1 hx]; exact hb.1
    · have hm : ∀ k, k < out.length → out.getD k Bid.zero ∈ out := fun k hk => by
        rw [List.getD_eq_getElem?_getD, List.getElem?_eq_getElem hk]
        exact List.getElem_mem hk
      simp only [List.length_append, List.length_cons, List.length_nil] at hi hj
      by_cases h1 : i < out.length
      · by_cases h2 : j < out.length
        · rw [Oct.getD_left _ _ h1, Oct.getD_left _ _ h2] at e
          exact h.one i j h1 h2 e
        · have : j = out.length := by omega
          subst this
          rw [Oct.getD_left _ _ h1, Oct.getD_at0] at e
          exact absurd e (hb.2.1 _ (hm i h1))
      · have : i = out.length := by omega
        subst this
        by_cases h2 : j < out.length
        · rw [Oct.getD_left _ _ h2, Oct.getD_at0] at e
          exact absurd e.symm (hb.2.1 _ (hm j h2))
        · omega
  · exact h
theorem fine_counts (funds : List Int) (round floor : Int) (l : List Bid) : Fine round floor (counts l funds round floor) := by
  unfold counts
  have : ∀ (l out : List Bid), Fine round floor out → Fine round floor (l.foldl (step funds round floor) out) := by
    intro l
    induction l with
    | nil => intro out h; exact h
    | cons b l ih => intro out h; exact ih _ (fine_step h b)
  exact this l [] ⟨fun b hb => absurd hb (by simp), fun i j hi => absurd hi (by simp)⟩
theorem counts_len (funds : List Int) (round floor : Int) (l : List Bid) : (counts l funds round floor).length ≤ l.length := by
  unfold counts
  have : ∀ (l out : List Bid), (l.foldl (step funds round floor) out).length ≤ out.length + l.length := by
    intro l
    induction l with
    | nil => intro out; simp
    | cons b l ih =>
      intro out
      have h1 := ih (step funds round floor out b)
      have h2 : (step funds round floor out b).length ≤ out.length + 1 := by unfold step; split <;> simp
      simp only [List.foldl_cons, List.length_cons]
      omega
  simpa using this l []
/-! ### Who wins -/
theorem win_none {all : List Bid} {floor : Int} (h : all.length = 0) : winOf all floor = (Win.zero, false) := by unfold winOf; rw [if_pos h]
theorem win_some {all : List Bid} {floor : Int} (h : 0 < all.length) : winOf all floor = (⟨all.getD (best all all.length) Bid.zero, price all (best all all.length) floor all.length⟩, true) := by unfold winOf; rw [if_neg (by omega)]
/-! ### Books -/
structure Book where
  floor : Int
  L : List Bid
def Book.bids (b : Book) (round : Int) : List Bid := b.L.filter fun x => decide (x.round = round)
def bid (b : Book) (x : Bid) (now : Int) : Book × Int :=
  if checkBid x ≠ 0 then (b, checkBid x)
  else if x.round ≤ now then (b, 26)
  else if x.amount < b.floor then (b, 24)
  else if ¬ fresh (b.bids x.round) x then (b, 23)
  else if 32 ≤ (b.bids x.round).length then (b, 25)
  else ({ b with L := b.L ++ [x] }, 0)
end Go.Auction

/- Own words: what a function hands back out of a cell and a slot. -/
set_option linter.unusedVariables false
set_option linter.unusedSimpArgs false
namespace Go.Sx
open Go.RowKit
variable {P : Program} {n : Nat} {S : List Nat} {w0 w : World} {ss : List (Nat × Value)} {l : List It} {o : Oper} {a : Act}
theorem run_cell_tmp {fn : Func} {t ty b z u : Nat} {E : TypeId} {cs : List Value} {v : Value} (hr : fn.results = #[.cell t ty, .tmp u]) (H : St n S w0 ss l a w) (hv : find ss t = some (.pointer (some ⟨b, 0, none⟩))) (ht : aggB P ty = some true) (hz : sizeB P ty = some z) (hm : It.blk b E cs ∈ l) (hl : cs.length = z) (hu : find ss u = some v) :
    (results fn a.tmps).run P w = .ok (.tuple #[.agg cs.toArray, v]) w := by
  have h1 : a.tmps[t]?.getD undef = .pointer (some ⟨b, 0, none⟩) := by simpa [Array.getD_eq_getD_getElem?] using getD_of H.fr hv
  have h3 : a.tmps[u]?.getD undef = v := by simpa [Array.getD_eq_getD_getElem?] using getD_of H.fr hu
  have h2 : Rd w (some ⟨b, 0, none⟩) cs := by
    have := Rd.blk (blk_at hm H.sep) 0 cs.length
    simpa using this
  subst hl
  simp [results, hr, h1, h3, loadVar, run_isAgg' ht, run_sizeOf' hz, h2.load, asAddr]
theorem retct {fn : Func} {R : Ending → World → Prop} {t ty b z u : Nat} {E : TypeId} {cs : List Value} {v : Value} (hr : fn.results = #[.cell t ty, .tmp u]) (H : St n S w0 ss l a w) (hv : find ss t = some (.pointer (some ⟨b, 0, none⟩))) (ht : aggB P ty = some true) (hz : sizeB P ty = some z) (hm : It.blk b E cs ∈ l) (hl : cs.length = z) (hu : find ss u = some v)
    (h : R (.returned (.tuple #[.agg cs.toArray, v])) w) : bodyPost P fn R .ret a w :=
  bodyPost_ret (run_cell_tmp hr H hv ht hz hm hl hu) H.fr.df h
end Go.Sx

/- Own words: a region that draws, with calls among reads: the reads taken as they come, under what stays. -/
set_option linter.unusedVariables false
set_option linter.unusedSimpArgs false
namespace Go.Sx
open Go.RowKit

variable {P : Program} {n : Nat} {S : List Nat} {w0 : World} {ss : List (Nat × Value)} {l ls : List It}
variable {rl : List Oper} {Q : Exit → Act → World → Prop} {o : Oper} {a : Act} {w : World} {fuel : Nat} {listed : Array Bool}

def HQ (P : Program) (rl : List Oper) (Q : Exit → Act → World → Prop) (T : World → Prop) (fuel : Nat) (listed : Array Bool) : Exit → Act → World → Prop :=
  fun e a w => e = .normal ∧ T w ∧ wpAnyH P .any rl.toArray (NoPanic Q) T fuel listed a w
theorem hreg {id : Nat} (ls : List It) (hs : ∀ w, Sep S w0 w l → Sep S w0 w ls) (hm : P.follows .mixedOrders = true) (H : St n S w0 ss l a w)
    (h : ∀ w', St n S w0 ss l a w' → wpAnyH P .any rl.toArray (NoPanic Q) (fun w => Sep S w0 w ls) rl.length (Array.replicate rl.length false) a w') : (Code.region id rl.toArray true).wp P Q a w :=
  wp_region_noPanic (wp_region_held hm (by
    have h1 := h _ ⟨H.fr, H.sep.drewN 1⟩
    have e : rl.toArray.size = rl.length := by simp
    rw [e]
    exact h1))
def takeB (rl : List Oper) (listed : Array Bool) (i : Nat) : Bool := Region.noSelect rl.toArray && Region.free .any rl.toArray listed i && (Region.ready .any rl.toArray listed).contains i
theorem htake (i : Nat) {d : Nat} {v : Value} (hi : rl[i]? = some o) (hB : takeB rl listed i = true) (hy : Yld P n S w0 ss ls o v) (hw : wantB rl.toArray ss o = some true) (hd : o.dst = some d) (hn : Nat.ble (d + 1) n = true) (hs : ∀ w, Sep S w0 w l → Sep S w0 w ls) (H : St n S w0 ss l a w)
    (K : ∀ a', St n S w0 ((d, v) :: ss) l a' w → wpAnyH P .any rl.toArray (NoPanic Q) (fun w => Sep S w0 w ls) fuel (listed.setIfInBounds i true) a' w) : wpAnyH P .any rl.toArray (NoPanic Q) (fun w => Sep S w0 w ls) (fuel + 1) listed a w := by
  simp only [takeB, Bool.and_eq_true] at hB
  refine wpAnyH_take (v := v) (by simpa using hi) hB.1.1 hB.1.2 hB.2 (fun c a w h => (h : False).elim) (.inl ⟨wanted_of H.fr hw, fun w' hs' => hy a w' H.fr hs'⟩) (hs _ H.sep) ?_
  rw [hd]
  exact K _ ⟨H.fr.put (Nat.lt_of_succ_le (Nat.le_of_ble_eq_true hn)) v, H.sep⟩
def onlyB (rl : List Oper) (listed : Array Bool) (i : Nat) : Bool := Region.ready .any rl.toArray listed == [i]
theorem hgo {T : World → Prop} (i : Nat) (hi : rl[i]? = some o) (hB : onlyB rl listed i = true) (h : wpList P rl.toArray (HQ P rl Q T fuel (listed.setIfInBounds i true)) [o] a w) : wpAnyH P .any rl.toArray (NoPanic Q) T (fuel + 1) listed a w := by
  have hB' : Region.ready .any rl.toArray listed = [i] := by simpa [onlyB] using hB
  refine wpAnyH_all hB' (by simp) fun j hj => ?_
  rw [List.mem_singleton.1 hj]
  unfold wpOp
  have hi' : rl.toArray[i]? = some o := by simpa using hi
  rw [hi']
  unfold wpList at h
  have hlo : ¬ LetsOut (HQ P rl Q T fuel (listed.setIfInBounds i true)) := by rintro ⟨a, w, h, _⟩; cases h
  show if _ then _ else _
  split
  · rename_i hw
    rw [if_pos hw] at h
    rcases h with h | ⟨_, h⟩
    · left
      unfold Oper.wp at h ⊢
      generalize (execOp a.eval o).run P w = r at h
      cases r with
      | ok nx w' =>
        cases nx <;> simp only [Oper.upon] at h ⊢
        case value v => exact h.2
        case skip => exact h.2
        case defer d => exact h.2
        case enter f args =>
          refine h.mono fun e w'' he => ?_
          cases e with
          | returned v => exact he.2
          | panicked c => cases he.1
          | outgrown => exact absurd he hlo
        case row r args => exact h.mono fun v w'' he => he.2
      | halt x w' =>
        cases x <;> simp only [Oper.upon] at h ⊢
        case panic v => cases h.1
    · exact absurd h hlo
  · rename_i hw
    rw [if_neg hw] at h
    exact h.2
theorem hfin {T : World → Prop} (hT : T w) (h : wpAnyH P .any rl.toArray (NoPanic Q) T fuel listed a w) : wpList P rl.toArray (HQ P rl Q T fuel listed) [] a w := ⟨rfl, hT, h⟩
def doneB (rl : List Oper) (listed : Array Bool) : Bool := (Region.ready .any rl.toArray listed).isEmpty
theorem hdone {T : World → Prop} (hB : doneB rl listed = true) (h : Q .normal a w) : wpAnyH P .any rl.toArray (NoPanic Q) T fuel listed a w :=
  wpAnyH_done (by simpa [doneB] using hB) (NoPanic.normal h) fuel
/-- Block b has n cells, of which the first are cs. -/
def It.pre (b : Nat) (E : TypeId) (n : Nat) (cs : List Value) : It where
  fp := [b]
  P := fun w => ∃ r, w.heap[b]? = some (.cells (cs ++ r).toArray E (0, 0)) ∧ (cs ++ r).length = n
  st := fun w w' h hp => by
    obtain ⟨r, h1, h2⟩ := hp
    exact ⟨r, (h b (by simp)).trans h1, h2⟩
  lt := fun w hp c hc => by
    obtain ⟨r, h1, h2⟩ := hp
    rw [List.mem_singleton.1 hc]
    exact (Array.getElem?_eq_some_iff.1 h1).1
theorem Sep.toPre {b n : Nat} {E : TypeId} {full cs : List Value} {l l' : List It} (h : Sep S w0 w l) (u : Upd l (It.blk b E full) (It.pre b E n cs) l') (hr : ∃ r, full = cs ++ r) (hn : full.length = n) : Sep S w0 w l' :=
  h.conv u (fun hp => by obtain ⟨r, e⟩ := hr; subst e; exact ⟨r, hp, hn⟩) (fun _ hb => hb)
theorem y_loadP {x : Operand} {t : TypeId} {b off m : Nat} {E : TypeId} {cs : List Value} {v : Value} (ho : o.op = .load t x) (ht : aggB P t = some false) (hx : evO ss x = some (.pointer (some ⟨b, off, none⟩))) (hm : It.pre b E m cs ∈ l) (hv : cs[off]? = some v) : Yld P n S w0 ss l o v :=
  y_load ho ht hx fun w hs => by
    obtain ⟨r, h1, _⟩ := hs.all _ hm
    rw [cell_blk h1]
    have hlt : off < cs.length := (List.getElem?_eq_some_iff.1 hv).1
    simp only [List.getElem?_toArray]
    rw [List.getElem?_append_left hlt, hv]
end Go.Sx
