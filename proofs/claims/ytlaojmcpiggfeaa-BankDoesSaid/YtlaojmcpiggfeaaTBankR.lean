/- Part of a proof about given Go functions: contracts of functions, or plain laws. -/
import Derived.Test.YtlaojmcpiggfeaaBankV
import Derived.Test.YtlaojmcpiggfeaaProg
set_option linter.unusedVariables false
set_option linter.unusedSimpArgs false
namespace Go.Proofs.Ytlaojmcpiggfeaa.TBankR
open Go.Sx Go.RowKit

theorem rd_Act {H : Type} {enc : TypeId × Value → H} {W : World} {sp : Nat → Bool} {held : Bool} {cs : List Value} (h : Tr enc Try.prog W sp held 34 cs) : ∃ c : Bank.Act, cs = Bank.cells c ∧ Bank.Wf c := by
  have hp := h.pieces Try.underlying34 [1, 1, 1, 1] (by kernel_rfl)
  obtain ⟨v0, e0, w0⟩ := (h.field Try.underlying34 0 rfl (o := 0) rfl (T := 3) rfl (k := 1) (by kernel_rfl)).i64 Try.underlying3
  obtain ⟨v1, e1, w1⟩ := (h.field Try.underlying34 1 rfl (o := 1) rfl (T := 3) rfl (k := 1) (by kernel_rfl)).i64 Try.underlying3
  obtain ⟨v2, e2, w2⟩ := (h.field Try.underlying34 2 rfl (o := 2) rfl (T := 3) rfl (k := 1) (by kernel_rfl)).i64 Try.underlying3
  obtain ⟨v3, e3, w3⟩ := (h.field Try.underlying34 3 rfl (o := 3) rfl (T := 3) rfl (k := 1) (by kernel_rfl)).i64 Try.underlying3
  refine ⟨⟨v0, v1, v2, v3⟩, ?_, w0, w1, w2, w3⟩
  rw [hp]
  simp only [pieces, Nat.zero_add, Nat.reduceAdd, e0, e1, e2, e3]
  rfl

end Go.Proofs.Ytlaojmcpiggfeaa.TBankR
