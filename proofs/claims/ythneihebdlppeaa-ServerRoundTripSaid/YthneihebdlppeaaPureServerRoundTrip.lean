/- The law ServerRoundTrip: the walk has shown it whole. -/
import Derived.Test.YthneihebdlppeaaQServerRoundTrip
namespace Go.Proofs.Ythneihebdlppeaa.Pure
open Go.RowKit Go.Proofs.Ythneihebdlppeaa.P Go.Proofs.Ythneihebdlppeaa.Rd
theorem ServerRoundTrip : timesynclaw30_ServerRoundTrip.Pure := by
  intro x0 l1 l2 _ h1 h2
  have hs : ∀ l : List S50, (l.length ≤ maxLen ∧ l.length * bytes50 ≤ reachBytes ∧ ∀ y ∈ l, ok50 y) → ∀ x ∈ l, x.f1.length < 140737488355328 ∧ bytesOk x.f1 := by
    intro l hl x hx
    obtain ⟨_, _, h2, h3⟩ := hl.2.2 x hx
    refine ⟨by unfold bytes5 reachBytes at h2; omega, fun y hy => ?_⟩
    have := h3 y hy
    simp [Lit.wf, IntKind.bits, IntKind.signed, IntKind.min, IntKind.max] at this
    omega
  unfold timesynclaw30_ServerRoundTrip.f
  exact if_pos ⟨hs l1 h1, hs l2 h2⟩
end Go.Proofs.Ythneihebdlppeaa.Pure
