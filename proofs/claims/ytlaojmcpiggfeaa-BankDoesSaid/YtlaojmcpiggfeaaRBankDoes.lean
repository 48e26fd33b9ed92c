/- The law BankDoesSaid: the walk of its code and its row. -/
import Derived.Test.YtlaojmcpiggfeaaRows
import Derived.Test.YtlaojmcpiggfeaaSxT
import Derived.Test.YtlaojmcpiggfeaaTBankD
import Derived.Test.YtlaojmcpiggfeaaTBankR
set_option linter.unusedVariables false
namespace Go.Proofs.Ytlaojmcpiggfeaa.bankDoes
open Go.ChangeShapes Go.WideShapes Go.ChangeAt Go.RowKit Go.Sx Go.Proofs.Ytlaojmcpiggfeaa.TBank Go.Proofs.Ytlaojmcpiggfeaa.TBank2 Go.Proofs.Ytlaojmcpiggfeaa.TBankR Go.Proofs.Ytlaojmcpiggfeaa.TBankD
open Go.ChangeMaps (open_string shut_string)
theorem own : ownKnob Try.prog.godebug = none := by kernel_rfl
theorem laidOut : laidOutB Try.prog = true := by kernel_rfl
set_option maxRecDepth 100000 in
theorem lifted (os : Os) (started : os.Started) (H : Type) (enc : TypeId × Value → H) :
    ReturnsInHanded {} Try.checked os 4 .any (Rows.bankDoesSpec.pre6 enc Try.prog Try.f4 Rows.bankDoesRow.domain false) (Rows.bankDoesSpec.post enc Try.prog Try.f4 false true false false) := by
  refine returnsInHanded_of_change_sized (C := Try.checked) own started (by kernel_rfl) Try.func4
    (ChangeSpec.witness6 (enc := enc) (C := Try.checked) false ⟨#[], #[.slice none 0 0, .int .i64 0], []⟩ 8 (by kernel_rfl) (by kernel_rfl) (by kernel_rfl) (by kernel_rfl)) ?_
  intro W base args ds gs before hval0 hW hcnd hsz0 _
  have hsz : (DataW.weightsEach Try.prog (Try.f4.params.toList ++ Rows.bankDoesSpec.plain.varTypes Try.prog) (ds ++ gs)).all (· ≤ reachBytes) = true := hsz0
  have hval : ∀ (j : Nat) t v, Try.f4.params[j]? = some t → args[j]? = some v → Value.okWide Try.prog W .any base t v := hval0
  have hW' := hW
  obtain ⟨p, q, hA0, hV, rfl, hfz, hnd⟩ := hW
  have hA : DataW.TrodAll enc Try.prog W 0 (fun _ => true) true Try.f4.params.toList args.toList ds p := hA0
  rw [Try.params4] at hA hval hsz
  obtain ⟨v0, vs0, d0, ds0, p0, q0, hargs, rfl, rfl, h0, r0⟩ := trodAll_cons hA
  obtain ⟨v1, vs1, d1, ds1, p1, q1, rfl, rfl, rfl, h1, r1⟩ := trodAll_cons r0
  obtain ⟨rfl, rfl, rfl⟩ := trodAll_nil r1
  obtain rfl : args = #[v0, v1] := by cases args; simp_all
  obtain ⟨rfl, rfl⟩ := trodVars_none hV
  obtain ⟨a0, len0, cap0, rfl⟩ := okWide_slice Try.underlying28 (hval 0 28 v0 rfl rfl)
  have k0 := h0
  have lt0 : ∀ x ∈ p0, x.block < W.heap.size := by obtain ⟨m, hm⟩ := k0; exact DataW.trod_lt m _ _ _ hm
  obtain ⟨_, _, _, he0, hl0, rows0, hrl0, hR0, hrw0⟩ := (Tr.of h0).slice Try.underlying28 (by rw [show Try.prog.cellsOf 34 = 4 by kernel_rfl]; decide)
  simp only [Value.cells] at he0
  obtain ⟨rfl, rfl, rfl⟩ : _ ∧ _ ∧ _ := by simpa using he0
  obtain ⟨l0, rfl, w0⟩ := rows_map (f := Bank.cells) (fun r hr => rd_Act (hrw0 r hr).2)
  simp only [List.length_map] at hrl0
  subst hrl0
  obtain ⟨n1, rfl, rfl, rfl, w1⟩ := open_int Try.underlying3 (hval 1 3 v1 rfl rfl) h1
  have hn1 := wf_i64 w1
  clear hA0 hval0 hsz0 hsz
  refine (law_below (bankDoes l0 a0 _ cap0 rfl n1 W hR0 hl0)).mono fun e W' ⟨he, bel⟩ => ?_
  subst he
  exact ⟨_, rfl, _, _, _, [], _, [], hW', trodAll_mk1 (shut_bool Try.underlying4 _), (trodAll_cons_mk (Below.trod laidOut (by kernel_rfl) (of_decide_eq_true (by kernel_rfl)) k0 bel lt0) (trodAll_cons_mk (shut_int Try.underlying3 w1) trodAll_mk0)), rfl, bel.frame _, fun h => by cases h⟩
theorem over : Rows.bankDoesRow.holds Try.pinned (OpenSpec.ofChange Rows.bankDoesSpec) :=
  OpenClaim.holds_of_wide 4 Try.f4 rfl rfl rfl rfl rfl rfl rfl ⟨rfl, rfl, rfl, rfl, rfl⟩ rfl rfl rfl rfl rfl (by kernel_rfl) Try.func4 (by kernel_rfl)
    (of_decide_eq_true (by kernel_rfl)) (by unfold Func.isWrapper; first | (rw [if_pos (by decide +kernel)]; kernel_rfl) | (rw [if_neg (by decide +kernel)]; exact ⟨rfl, rfl⟩))
    (fun os started H enc _ => lifted os started H enc)
end Go.Proofs.Ytlaojmcpiggfeaa.bankDoes
namespace Go.Proofs.Ytlaojmcpiggfeaa
theorem bankDoes_holds : Rows.BankDoesSaid := bankDoes.over
#print axioms bankDoes_holds
end Go.Proofs.Ytlaojmcpiggfeaa
