/- The law CombineBetween: for every input that can be read it returns true, and its arguments read as they did. The row, out of the plain statement and the contract of the law's walk. -/
import Derived.Test.YtgbajigcmadofaaRows
import Derived.Test.YtgbajigcmadofaaQCombineBetween
import Derived.Test.YtgbajigcmadofaaPureCombineBetween
import Derived.WalkKit
import Derived.ProofKit
import Derived.OpenShut
import Derived.ShutString
import Derived.ChangeOld
import Derived.Below
import Derived.SizedLaws
namespace Go.Proofs.Ytgbajigcmadofaa.combineBetween
open Go.ChangeShapes Go.WideShapes Go.ChangeAt Go.RowKit
open Go.ChangeMaps (open_string shut_string)
set_option linter.unusedVariables false
theorem own : ownKnob Try.prog.godebug = none := by kernel_rfl
theorem laidOut : laidOutB Try.prog = true := by kernel_rfl
set_option maxRecDepth 100000 in
theorem lifted (os : Os) (started : os.Started) (H : Type) (enc : TypeId × Value → H) :
    ReturnsInHanded {} Try.checked os 5 .any (Rows.combineBetweenSpec.pre6 enc Try.prog Try.f5 Rows.combineBetweenRow.domain false) (Rows.combineBetweenSpec.post enc Try.prog Try.f5 false true false false) := by
  refine returnsInHanded_of_change_sized (C := Try.checked) own started (by kernel_rfl) Try.func5
    (ChangeSpec.witness6 (enc := enc) (C := Try.checked) false ⟨#[], #[.slice none 0 0], []⟩ 8 (by kernel_rfl) (by kernel_rfl) (by kernel_rfl) (by kernel_rfl)) ?_
  intro W base args ds gs before hval0 hW hcnd hsz0 _
  have hsz : (DataW.weightsEach Try.prog (Try.f5.params.toList ++ Rows.combineBetweenSpec.plain.varTypes Try.prog) (ds ++ gs)).all (· ≤ reachBytes) = true := hsz0
  have hval : ∀ (j : Nat) t v, Try.f5.params[j]? = some t → args[j]? = some v → Value.okWide Try.prog W .any base t v := hval0
  have hW' := hW
  obtain ⟨p, q, hA0, hV, rfl, hfz, hnd⟩ := hW
  have hA : DataW.TrodAll enc Try.prog W 0 (fun _ => true) true Try.f5.params.toList args.toList ds p := hA0
  rw [Try.params5] at hA hval hsz
  obtain ⟨v0, vs0, d0, ds0, p0, q0, hargs, rfl, rfl, h0, r0⟩ := trodAll_cons hA
  obtain ⟨rfl, rfl, rfl⟩ := trodAll_nil r0
  obtain rfl : args = #[v0] := by cases args; simp_all
  obtain ⟨rfl, rfl⟩ := trodVars_none hV
  have k0 := h0
  have lt0 : ∀ x ∈ p0, x.block < W.heap.size := by obtain ⟨m, hm⟩ := k0; exact DataW.trod_lt m _ _ _ hm
  obtain ⟨x0, A0, c0, hv0, hl0, hC0, ok0⟩ := Op.arg_slice (open Go.Proofs.Ytgbajigcmadofaa.P in (Op.Opens.slice (B := bytes34) z34 Try.underlying22 (by kernel_rfl) (by kernel_rfl) opens34)) Try.underlying22 (hval 0 22 v0 rfl rfl) h0 (Op.small_of hsz (j := 0) rfl rfl)
  subst hv0
  clear hA0 hval0 hsz0 hsz
  obtain ⟨k, hP⟩ := Pure.CombineBetween x0 ok0
  refine (P.timesynclaw26_CombineBetween.calls k A0 c0 x0 true W hC0 hl0 hP).mono fun e W' ⟨he, hb⟩ => ?_
  have bel : Below W.heap.size W W' := hb
  subst he
  exact ⟨_, rfl, _, _, _, [], _, [], hW', trodAll_mk1 (shut_bool Try.underlying4 _), (trodAll_cons_mk (Below.trod laidOut (by kernel_rfl) (of_decide_eq_true (by kernel_rfl)) k0 bel lt0) trodAll_mk0), rfl, bel.frame _, fun h => by cases h⟩
theorem over : Rows.combineBetweenRow.holds Try.pinned (OpenSpec.ofChange Rows.combineBetweenSpec) :=
  OpenClaim.holds_of_wide 5 Try.f5 rfl rfl rfl rfl rfl rfl rfl ⟨rfl, rfl, rfl, rfl, rfl⟩ rfl rfl rfl rfl rfl (by kernel_rfl) Try.func5 (by kernel_rfl)
    (of_decide_eq_true (by kernel_rfl)) (by unfold Func.isWrapper; first | (rw [if_pos (by decide +kernel)]; kernel_rfl) | (rw [if_neg (by decide +kernel)]; exact ⟨rfl, rfl⟩))
    (fun os started H enc _ => lifted os started H enc)
theorem proved : Rows.CombineBetweenSaid := over
#print axioms proved
end Go.Proofs.Ytgbajigcmadofaa.combineBetween
namespace Go.Proofs.Ytgbajigcmadofaa
/-- The row, under a short name, for the claim. -/
theorem combineBetween_holds : Rows.CombineBetweenSaid := combineBetween.proved
end Go.Proofs.Ytgbajigcmadofaa
