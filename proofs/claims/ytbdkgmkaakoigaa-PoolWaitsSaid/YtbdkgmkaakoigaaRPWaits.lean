/- The law PoolWaitsSaid: the walk of its code and its row. -/
import Derived.Test.YtbdkgmkaakoigaaRows
import Derived.Test.YtbdkgmkaakoigaaS3
import Derived.Test.YtbdkgmkaakoigaaW4
import Derived.Test.YtbdkgmkaakoigaaS7
set_option linter.unusedVariables false
namespace Go.Proofs.Ytbdkgmkaakoigaa.poolWaits
open Go.ChangeShapes Go.WideShapes Go.ChangeAt Go.RowKit Go.Sx Go.Proofs.Ytbdkgmkaakoigaa.P_L5 Go.Proofs.Ytbdkgmkaakoigaa.P_Rd
open Go.ChangeMaps (open_string shut_string)
theorem own : ownKnob Try.prog.godebug = none := by kernel_rfl
theorem laidOut : laidOutB Try.prog = true := by kernel_rfl
set_option maxRecDepth 100000 in
theorem lifted (os : Os) (started : os.Started) (H : Type) (enc : TypeId × Value → H) :
    ReturnsInHanded {} Try.checked os 6 .any (Rows.poolWaitsSpec.pre6 enc Try.prog Try.f6 Rows.poolWaitsRow.domain false) (Rows.poolWaitsSpec.post enc Try.prog Try.f6 false true false false) := by
  refine returnsInHanded_of_change_sized (C := Try.checked) own started (by kernel_rfl) Try.func6
    (ChangeSpec.witness6 (enc := enc) (C := Try.checked) false ⟨#[], #[(.int .u8 0), (.slice none 0 0), (.int .i64 0)], []⟩ 8 (by kernel_rfl) (by kernel_rfl) (by kernel_rfl) (by kernel_rfl)) ?_
  intro W base args ds gs before hval0 hW hcnd hsz0 _
  have hsz : (DataW.weightsEach Try.prog (Try.f6.params.toList ++ Rows.poolWaitsSpec.plain.varTypes Try.prog) (ds ++ gs)).all (· ≤ reachBytes) = true := hsz0
  have hval : ∀ (j : Nat) t v, Try.f6.params[j]? = some t → args[j]? = some v → Value.okWide Try.prog W .any base t v := hval0
  have hW' := hW
  obtain ⟨p, q, hA0, hV, rfl, hfz, hnd⟩ := hW
  have hA : DataW.TrodAll enc Try.prog W 0 (fun _ => true) true Try.f6.params.toList args.toList ds p := hA0
  rw [Try.params6] at hA hval hsz
  obtain ⟨v0, vs0, d0, ds0, p0, q0, hargs, rfl, rfl, h0, r0⟩ := trodAll_cons hA
  obtain ⟨v1, vs1, d1, ds1, p1, q1, rfl, rfl, rfl, h1, r1⟩ := trodAll_cons r0
  obtain ⟨v2, vs2, d2, ds2, p2, q2, rfl, rfl, rfl, h2, r2⟩ := trodAll_cons r1
  obtain ⟨rfl, rfl, rfl⟩ := trodAll_nil r2
  obtain rfl : args = #[v0, v1, v2] := by cases args; simp_all
  obtain ⟨rfl, rfl⟩ := trodVars_none hV
  obtain ⟨n0, rfl, rfl, rfl, w0⟩ := open_int Try.underlying5 (hval 0 5 v0 rfl rfl) h0
  obtain ⟨u0, rfl⟩ : ∃ u : UInt8, n0 = (u.toNat : Int) := u8_of w0
  obtain ⟨a1, len1, cap1, rfl⟩ := okWide_slice Try.underlying52 (hval 1 52 v1 rfl rfl)
  have k1 := h1
  have lt1 : ∀ x ∈ p1, x.block < W.heap.size := by obtain ⟨m, hm⟩ := k1; exact DataW.trod_lt m _ _ _ hm
  obtain ⟨b1, m1, e1, he1, hmc1, hmm1, rows1, hr1, hR1, hrow1⟩ := (Trw.of h1 hsz 1 rfl rfl).sliceC Try.underlying52 (by rw [show Try.prog.cellsOf 59 = 75 by kernel_rfl]; decide)
  obtain ⟨rfl, rfl, rfl⟩ : a1 = b1 ∧ len1 = m1 ∧ cap1 = e1 := by simpa [Value.cells] using he1
  obtain ⟨l1, rfl, w1⟩ := rows_map (f := Pool.Come.cells) (rows := rows1) (fun r hr => rd_Come (hrow1 r hr).2)
  simp only [List.length_map] at hr1
  subst hr1
  obtain ⟨n2, rfl, rfl, rfl, w2⟩ := open_int Try.underlying3 (hval 2 3 v2 rfl rfl) h2
  have hn2 := wf_i64 w2
  clear hA0 hval0 hsz0 hsz
  refine (law_below (poolWaits (u0.toNat : Int) (by have := u0.toNat_lt; omega) l1 _ _ hmm1 w1 n2 hR1)).mono fun e W' ⟨he, bel⟩ => ?_
  subst he
  exact ⟨_, rfl, _, _, _, [], _, [], hW', trodAll_mk1 (shut_bool Try.underlying4 _), (trodAll_cons_mk (shut_int Try.underlying5 w0) (trodAll_cons_mk (Below.trod laidOut (by kernel_rfl) (of_decide_eq_true (by kernel_rfl)) k1 bel lt1) (trodAll_cons_mk (shut_int Try.underlying3 w2) trodAll_mk0))), rfl, bel.frame _, fun h => by cases h⟩
theorem over : Rows.poolWaitsRow.holds Try.pinned (OpenSpec.ofChange Rows.poolWaitsSpec) :=
  OpenClaim.holds_of_wide 6 Try.f6 rfl rfl rfl rfl rfl rfl rfl ⟨rfl, rfl, rfl, rfl, rfl⟩ rfl rfl rfl rfl rfl (by kernel_rfl) Try.func6 (by kernel_rfl)
    (of_decide_eq_true (by kernel_rfl)) (by unfold Func.isWrapper; first | (rw [if_pos (by decide +kernel)]; kernel_rfl) | (rw [if_neg (by decide +kernel)]; exact ⟨rfl, rfl⟩))
    (fun os started H enc _ => lifted os started H enc)
end Go.Proofs.Ytbdkgmkaakoigaa.poolWaits
namespace Go.Proofs.Ytbdkgmkaakoigaa
theorem poolWaits_holds : Rows.PoolWaitsSaid := poolWaits.over
#print axioms poolWaits_holds
end Go.Proofs.Ytbdkgmkaakoigaa
