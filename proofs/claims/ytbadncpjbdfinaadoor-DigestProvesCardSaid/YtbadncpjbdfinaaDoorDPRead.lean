/- Part of a proof about given Go functions: contracts of functions, or plain laws. -/
import Derived.Test.YtbadncpjbdfinaaDoorMerkV
import Derived.Test.YtbadncpjbdfinaaDoorProg
set_option linter.unusedVariables false
set_option linter.unusedSimpArgs false
namespace Go.Proofs.YtbadncpjbdfinaaDoor.D_PRead
open Go.Sx Go.RowKit

theorem rd_Case {H : Type} {enc : TypeId × Value → H} {W : World} {sp : Nat → Bool} {held : Bool} {cs : List Value} (h : Trw enc Tryd.prog W sp held 40 cs) : ∃ c : Merk.Case, cs = Merk.cells c ∧ Merk.Wf W c := by
  have hp := h.pieces Tryd.underlying40 [32, 1, 1, 1, 1] (by kernel_rfl)
  obtain ⟨v0, e0, w0⟩ := (h.field Tryd.underlying40 0 rfl (o := 0) rfl (T := 23) rfl (k := 32) (by kernel_rfl)).bytes Tryd.underlying23 Tryd.underlying5 (by kernel_rfl) (by kernel_rfl)
  obtain ⟨v1, e1, w1⟩ := (h.field Tryd.underlying40 1 rfl (o := 32) rfl (T := 3) rfl (k := 1) (by kernel_rfl)).i64 Tryd.underlying3
  obtain ⟨v2, e2, w2⟩ := (h.field Tryd.underlying40 2 rfl (o := 33) rfl (T := 3) rfl (k := 1) (by kernel_rfl)).i64 Tryd.underlying3
  obtain ⟨v3, e3, w3⟩ := (h.field Tryd.underlying40 3 rfl (o := 34) rfl (T := 9) rfl (k := 1) (by kernel_rfl)).str Tryd.underlying9
  obtain ⟨A4, v4, c4, e4, w4⟩ := (h.field Tryd.underlying40 4 rfl (o := 35) rfl (T := 38) rfl (k := 1) (by kernel_rfl)).tr.hashes Tryd.underlying38 Tryd.underlying23 Tryd.underlying5 (by kernel_rfl) (by kernel_rfl)
  refine ⟨⟨v0, v1, v2, v3, A4, v4, c4⟩, ?_, w0, w1, w2, w3, w4⟩
  rw [hp]
  simp only [pieces, Nat.zero_add, Nat.reduceAdd, e0, e1, e2, e3, e4]
  first | rfl | simp [Merk.cells]

end Go.Proofs.YtbadncpjbdfinaaDoor.D_PRead
