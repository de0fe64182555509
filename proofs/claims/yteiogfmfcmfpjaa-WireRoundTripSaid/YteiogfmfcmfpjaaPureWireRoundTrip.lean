/- The law WireRoundTrip: the walk has shown it whole. -/
import Derived.Test.YteiogfmfcmfpjaaQWireRoundTrip
namespace Go.Proofs.Yteiogfmfcmfpjaa.Pure
open Go.RowKit Go.Proofs.Yteiogfmfcmfpjaa.P
theorem WireRoundTrip : timesynclaw02_WireRoundTrip.Pure := by
  intro l hl
  unfold timesynclaw02_WireRoundTrip.f
  refine if_pos fun x hx => ?_
  have := (hl.2.2 x hx).1
  simp [Lit.wf, IntKind.bits, IntKind.signed, IntKind.min, IntKind.max] at this
  omega
end Go.Proofs.Yteiogfmfcmfpjaa.Pure
