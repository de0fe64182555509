/- The examples of the chapter. -/
import Derived.Test.YthneihebdlppeaaPx21
namespace Go.Proofs.Ythneihebdlppeaa.P
open Go.RowKit Go.Proofs.YthneihebdlppeaaW.PrintWords Go.Proofs.YthneihebdlppeaaW.PrintLast Go.Proofs.YthneihebdlppeaaW.PrintMore
theorem awk30_ok : timesynclaw30_awake.f 100 = some true := by kernel_rfl
theorem awk30 (k : Nat) (hk : 100 ≤ k) : timesynclaw30_awake.f k = some true := by
  have h : ∀ d : Nat, timesynclaw30_awake.f (100 + d) = some true := by
    intro d
    induction d with
    | zero => exact awk30_ok
    | succ d ih => exact timesynclaw30_awake.mono (100 + d) _ ih
  obtain ⟨d, rfl⟩ : ∃ d, k = 100 + d := ⟨k - 100, by omega⟩
  exact h d
end Go.Proofs.Ythneihebdlppeaa.P
