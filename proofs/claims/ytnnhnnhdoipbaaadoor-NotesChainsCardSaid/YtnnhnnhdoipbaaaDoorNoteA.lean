/- What comes at any rate; small laws on what is read. -/
import Derived.Test.YtnnhnnhdoipbaaaDoorNoteB
import Derived.Test.YtnnhnnhdoipbaaaDoorShaNote
namespace Go.Note
def b0 : Bid := ⟨1, 2, 3, 0, Z⟩
theorem b0_ok : b0.ok = true := by decide
theorem sign_ok {b : Bid} (h : b.ok = true) : signBid b = (⟨b.round, b.who, b.amount, b.salt, (Seal.tag b.who 3 b.said).1⟩, 0) := by unfold signBid; rw [if_pos h]
theorem sign_good {b : Bid} (h : b.ok = true) : (signBid b).2 = 0 := by rw [sign_ok h]
theorem sign_still {b : Bid} (h : b.ok = true) : (signBid b).1.ok = true := by rw [sign_ok h]; exact h
theorem check_sign {b : Bid} (h : b.ok = true) : checkBid (signBid b).1 = 0 := by
  have h1 := sign_still h
  unfold checkBid
  rw [if_pos h1, if_pos]
  rw [sign_ok h]
  rfl
theorem aw_sign : (signBid b0).2 = 0 := sign_good b0_ok
def sb : Bid := (signBid b0).1
theorem sb_ok : sb.ok = true := sign_still b0_ok
theorem sb_len : sb.tag.length = 32 := sign_len b0
theorem aw_write : (writeBid sb).2 = 0 := by
  unfold writeBid
  rw [if_pos sb_ok]
  have hw := ok_who sb_ok
  refine list_small (by simp) ?_
  have h0 := num_len (n := sb.round) (by omega)
  have h1 := num_len (n := sb.who) (by omega)
  have h2 := num_len (n := sb.amount) (by omega)
  have h3 := num_len (n := sb.salt) (by omega)
  have h4 := sb_len
  simp only [List.flatten_cons, List.flatten_nil, List.length_append, List.length_nil]
  omega
theorem aw_read : readBid (writeBid sb).1 = (sb, 0) := readBid_write sb_len aw_write
theorem aw_check : checkBid sb = 0 := check_sign b0_ok
theorem r0_ok : (⟨0, 1, 5, [97], Z, Z⟩ : Receipt).ok = true := by decide
theorem aw_link : link Z 0 1 5 [97] = (⟨0, 1, 5, [97], Z, (⟨0, 1, 5, [97], Z, Z⟩ : Receipt).link⟩, 0) := by unfold link; rw [if_pos r0_ok]
theorem num0 : num 0 = [0] := by decide
theorem num1 : num 1 = [1, 1] := by unfold num; rw [Seal.num1 (by omega) (by omega)]; rfl
theorem num5 : num 5 = [1, 5] := by unfold num; rw [Seal.num1 (by omega) (by omega)]; rfl
theorem numL_small {m : Nat} (h0 : 0 < m) (h : m < 256) : Oct.numL m = [1, UInt8.ofNat m] := by
  have := Seal.num1 (who := (m : Int)) (by omega) (by omega)
  rw [Oct.number_nat] at this
  simpa using this
theorem aw_text : Z ++ (Oct.list [num 0, num 1, num 5, [97]]).1 = Sha.note1T := by
  rw [num0, num1, num5, Oct.list_ok (by simp) (by simp)]
  unfold Oct.listL Oct.textL
  simp only [List.map_cons, List.map_nil, List.length_cons, List.length_nil, List.flatten_cons, List.flatten_nil]
  rw [numL_small (by omega) (by omega), numL_small (by omega) (by omega), numL_small (by omega) (by omega)]
  rfl
theorem aw_hash : (link Z 0 1 5 [97]).1.hash ≠ List.replicate 32 0 := by
  rw [aw_link]
  show Sha.sum (Z ++ (Oct.list [num 0, num 1, num 5, [97]]).1) ≠ _
  rw [aw_text, Sha.sum_note1]
  decide
theorem readBid_len {s : List UInt8} : (readBid s).1.tag.length = 32 := by
  unfold readBid
  split
  · rfl
  · split
    · rename_i h; exact h.2.1
    · rfl
theorem readReceipt_len {s : List UInt8} : (readReceipt s).1.prev.length = 32 ∧ (readReceipt s).1.hash.length = 32 := by
  unfold readReceipt
  split
  · exact ⟨rfl, rfl⟩
  · split
    · rename_i h; exact ⟨h.2.1, h.2.2.1⟩
    · exact ⟨rfl, rfl⟩
theorem link_err {prev : List UInt8} {index kind time : Int} {body : List UInt8} (h : (link prev index kind time body).2 ≠ 0) : (link prev index kind time body).1 = Receipt.zero := by
  unfold link at *
  split
  · rename_i h1; rw [if_pos h1] at h; exact absurd rfl h
  · rfl
theorem link_prev {prev : List UInt8} {index kind time : Int} {body : List UInt8} (h : (link prev index kind time body).2 = 0) : (link prev index kind time body).1.prev = prev := by
  unfold link at *
  split
  · rfl
  · rename_i h1; rw [if_neg h1] at h; simp at h
theorem wrec_len {r : Receipt} : (writeReceipt r).1.length ≤ 80000 := by
  unfold writeReceipt
  split
  · split
    · exact Oct.list_len
    · simp
  · simp
theorem wbid_len {b : Bid} : (writeBid b).1.length ≤ 80000 := by
  unfold writeBid
  split
  · exact Oct.list_len
  · simp
end Go.Note
