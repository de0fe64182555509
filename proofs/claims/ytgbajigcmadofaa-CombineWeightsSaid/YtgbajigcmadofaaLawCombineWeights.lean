/- The law CombineWeights: for every input that can be read it returns true, and its arguments read as they did. The row, out of the plain statement and the contract of the law's walk. -/
import Derived.Test.YtgbajigcmadofaaRows
import Derived.Test.YtgbajigcmadofaaQCombineWeights
import Derived.Test.YtgbajigcmadofaaPureCombineWeights
import Derived.WalkKit
import Derived.ProofKit
import Derived.OpenShut
import Derived.ShutString
import Derived.ChangeOld
import Derived.Below
import Derived.SizedLaws
namespace Go.Proofs.Ytgbajigcmadofaa.combineWeights
open Go.ChangeShapes Go.WideShapes Go.ChangeAt Go.RowKit
open Go.ChangeMaps (open_string shut_string)
set_option linter.unusedVariables false
theorem own : ownKnob Try.prog.godebug = none := by kernel_rfl
theorem laidOut : laidOutB Try.prog = true := by kernel_rfl
set_option maxRecDepth 100000 in
theorem lifted (os : Os) (started : os.Started) (H : Type) (enc : TypeId × Value → H) :
    ReturnsInHanded {} Try.checked os 4 .any (Rows.combineWeightsSpec.pre6 enc Try.prog Try.f4 Rows.combineWeightsRow.domain false) (Rows.combineWeightsSpec.post enc Try.prog Try.f4 false true false false) := by
  refine returnsInHanded_of_change_sized (C := Try.checked) own started (by kernel_rfl) Try.func4
    (ChangeSpec.witness6 (enc := enc) (C := Try.checked) false ⟨#[], #[.slice none 0 0], []⟩ 8 (by kernel_rfl) (by kernel_rfl) (by kernel_rfl) (by kernel_rfl)) ?_
  intro W base args ds gs before hval0 hW hcnd hsz0 _
  have hsz : (DataW.weightsEach Try.prog (Try.f4.params.toList ++ Rows.combineWeightsSpec.plain.varTypes Try.prog) (ds ++ gs)).all (· ≤ reachBytes) = true := hsz0
  have hval : ∀ (j : Nat) t v, Try.f4.params[j]? = some t → args[j]? = some v → Value.okWide Try.prog W .any base t v := hval0
  have hW' := hW
  obtain ⟨p, q, hA0, hV, rfl, hfz, hnd⟩ := hW
  have hA : DataW.TrodAll enc Try.prog W 0 (fun _ => true) true Try.f4.params.toList args.toList ds p := hA0
  rw [Try.params4] at hA hval hsz
  obtain ⟨v0, vs0, d0, ds0, p0, q0, hargs, rfl, rfl, h0, r0⟩ := trodAll_cons hA
  obtain ⟨rfl, rfl, rfl⟩ := trodAll_nil r0
  obtain rfl : args = #[v0] := by cases args; simp_all
  obtain ⟨rfl, rfl⟩ := trodVars_none hV
  have k0 := h0
  have lt0 : ∀ x ∈ p0, x.block < W.heap.size := by obtain ⟨m, hm⟩ := k0; exact DataW.trod_lt m _ _ _ hm
  obtain ⟨x0, A0, c0, hv0, hl0, hC0, ok0⟩ := Op.arg_slice (open Go.Proofs.Ytgbajigcmadofaa.P in (Op.Opens.slice (B := bytes34) z34 Try.underlying22 (by kernel_rfl) (by kernel_rfl) opens34)) Try.underlying22 (hval 0 22 v0 rfl rfl) h0 (Op.small_of hsz (j := 0) rfl rfl)
  subst hv0
  clear hA0 hval0 hsz0 hsz
  obtain ⟨k, hP⟩ := Pure.CombineWeights x0 ok0
  refine (P.timesynclaw26_CombineWeights.calls k A0 c0 x0 true W hC0 hl0 hP).mono fun e W' ⟨he, hb⟩ => ?_
  have bel : Below W.heap.size W W' := hb
  subst he
  exact ⟨_, rfl, _, _, _, [], _, [], hW', trodAll_mk1 (shut_bool Try.underlying4 _), (trodAll_cons_mk (Below.trod laidOut (by kernel_rfl) (of_decide_eq_true (by kernel_rfl)) k0 bel lt0) trodAll_mk0), rfl, bel.frame _, fun h => by cases h⟩
theorem over : Rows.combineWeightsRow.holds Try.pinned (OpenSpec.ofChange Rows.combineWeightsSpec) :=
  OpenClaim.holds_of_wide 4 Try.f4 rfl rfl rfl rfl rfl rfl rfl ⟨rfl, rfl, rfl, rfl, rfl⟩ rfl rfl rfl rfl rfl (by kernel_rfl) Try.func4 (by kernel_rfl)
    (of_decide_eq_true (by kernel_rfl)) (by unfold Func.isWrapper; first | (rw [if_pos (by decide +kernel)]; kernel_rfl) | (rw [if_neg (by decide +kernel)]; exact ⟨rfl, rfl⟩))
    (fun os started H enc _ => lifted os started H enc)
theorem proved : Rows.CombineWeightsSaid := over
#print axioms proved
end Go.Proofs.Ytgbajigcmadofaa.combineWeights
namespace Go.Proofs.Ytgbajigcmadofaa
/-- The row, under a short name, for the claim. -/
theorem combineWeights_holds : Rows.CombineWeightsSaid := combineWeights.proved
end Go.Proofs.Ytgbajigcmadofaa
