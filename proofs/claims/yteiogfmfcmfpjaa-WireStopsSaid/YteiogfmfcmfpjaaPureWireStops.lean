/- The law WireStops: the walk has shown it whole. -/
import Derived.Test.YteiogfmfcmfpjaaQWireStops
namespace Go.Proofs.Yteiogfmfcmfpjaa.Pure
open Go.RowKit Go.Proofs.Yteiogfmfcmfpjaa.P
theorem WireStops : timesynclaw02_WireStops.Pure := by
  intro l a1 a2 l3 hl h1 h2 h3
  unfold timesynclaw02_WireStops.f
  refine if_pos ⟨fun x hx => ?_, ?_⟩
  · have := hl.2.2 x hx
    simp [Lit.wf, IntKind.bits, IntKind.signed, IntKind.min, IntKind.max] at this
    omega
  · simp [Lit.wf, IntKind.bits, IntKind.signed, IntKind.min, IntKind.max] at h2
    omega
end Go.Proofs.Yteiogfmfcmfpjaa.Pure
