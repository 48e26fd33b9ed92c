/- The law PoolNoneSaid: the walk of its code and its row. -/
import Derived.Test.YtbdkgmkaakoigaaRows
import Derived.Test.YtbdkgmkaakoigaaS3
import Derived.Test.YtbdkgmkaakoigaaW3
import Derived.Test.YtbdkgmkaakoigaaS6
set_option linter.unusedVariables false
namespace Go.Proofs.Ytbdkgmkaakoigaa.poolNone
open Go.ChangeShapes Go.WideShapes Go.ChangeAt Go.RowKit Go.Sx Go.Proofs.Ytbdkgmkaakoigaa.P_L1 Go.Proofs.Ytbdkgmkaakoigaa.P_Rd
open Go.ChangeMaps (open_string shut_string)
def z0 : Value := .agg ([Value.int .i64 0, Value.int .i64 0, Value.int .i64 0, Value.int .i64 0] ++ [Value.string ByteArray.empty] ++ [Value.bool false] ++ [Value.int .i64 0, Value.int .i64 0] ++ List.replicate 64 (Value.int .u8 0) ++ [Value.int .i64 0, Value.int .i64 0, Value.int .i64 0, Value.int .i64 0]).toArray
theorem own : ownKnob Try.prog.godebug = none := by kernel_rfl
theorem laidOut : laidOutB Try.prog = true := by kernel_rfl
set_option maxRecDepth 100000 in
theorem lifted (os : Os) (started : os.Started) (H : Type) (enc : TypeId × Value → H) :
    ReturnsInHanded {} Try.checked os 7 .any (Rows.poolNoneSpec.pre6 enc Try.prog Try.f7 Rows.poolNoneRow.domain false) (Rows.poolNoneSpec.post enc Try.prog Try.f7 false true false false) := by
  refine returnsInHanded_of_change_sized (C := Try.checked) own started (by kernel_rfl) Try.func7
    (ChangeSpec.witness6 (enc := enc) (C := Try.checked) false ⟨#[], #[z0], []⟩ 8 (by kernel_rfl) (by kernel_rfl) (by kernel_rfl) (by kernel_rfl)) ?_
  intro W base args ds gs before hval0 hW hcnd hsz0 _
  have hsz : (DataW.weightsEach Try.prog (Try.f7.params.toList ++ Rows.poolNoneSpec.plain.varTypes Try.prog) (ds ++ gs)).all (· ≤ reachBytes) = true := hsz0
  have hval : ∀ (j : Nat) t v, Try.f7.params[j]? = some t → args[j]? = some v → Value.okWide Try.prog W .any base t v := hval0
  have hW' := hW
  obtain ⟨p, q, hA0, hV, rfl, hfz, hnd⟩ := hW
  have hA : DataW.TrodAll enc Try.prog W 0 (fun _ => true) true Try.f7.params.toList args.toList ds p := hA0
  rw [Try.params7] at hA hval hsz
  obtain ⟨v0, vs0, d0, ds0, p0, q0, hargs, rfl, rfl, h0, r0⟩ := trodAll_cons hA
  obtain ⟨rfl, rfl, rfl⟩ := trodAll_nil r0
  obtain rfl : args = #[v0] := by cases args; simp_all
  obtain ⟨rfl, rfl⟩ := trodVars_none hV
  obtain ⟨cs0, rfl, hz0⟩ := okWide_struct Try.underlying38 (hval 0 38 v0 rfl rfl)
  have k0 := h0
  have lt0 : ∀ x ∈ p0, x.block < W.heap.size := by obtain ⟨m, hm⟩ := k0; exact DataW.trod_lt m _ _ _ hm
  obtain ⟨c0, hc0, w0⟩ := rd_Wait (Trw.of h0 hsz 0 rfl rfl)
  obtain rfl : cs0 = (Pool.Wait.cells c0).toArray := by apply Array.ext'; exact hc0
  clear hA0 hval0 hsz0 hsz
  refine (law_below (poolNone c0 w0 W)).mono fun e W' ⟨he, bel⟩ => ?_
  subst he
  exact ⟨_, rfl, _, _, _, [], _, [], hW', trodAll_mk1 (shut_bool Try.underlying4 _), (trodAll_cons_mk (Below.trod laidOut (by kernel_rfl) (of_decide_eq_true (by kernel_rfl)) k0 bel lt0) trodAll_mk0), rfl, bel.frame _, fun h => by cases h⟩
theorem over : Rows.poolNoneRow.holds Try.pinned (OpenSpec.ofChange Rows.poolNoneSpec) :=
  OpenClaim.holds_of_wide 7 Try.f7 rfl rfl rfl rfl rfl rfl rfl ⟨rfl, rfl, rfl, rfl, rfl⟩ rfl rfl rfl rfl rfl (by kernel_rfl) Try.func7 (by kernel_rfl)
    (of_decide_eq_true (by kernel_rfl)) (by unfold Func.isWrapper; first | (rw [if_pos (by decide +kernel)]; kernel_rfl) | (rw [if_neg (by decide +kernel)]; exact ⟨rfl, rfl⟩))
    (fun os started H enc _ => lifted os started H enc)
end Go.Proofs.Ytbdkgmkaakoigaa.poolNone
namespace Go.Proofs.Ytbdkgmkaakoigaa
theorem poolNone_holds : Rows.PoolNoneSaid := poolNone.over
#print axioms poolNone_holds
end Go.Proofs.Ytbdkgmkaakoigaa
