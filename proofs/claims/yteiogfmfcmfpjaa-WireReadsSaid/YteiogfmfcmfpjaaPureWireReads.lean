/- The law WireReads: the walk has shown it whole. -/
import Derived.Test.YteiogfmfcmfpjaaQWireReads
namespace Go.Proofs.Yteiogfmfcmfpjaa.Pure
open Go.RowKit Go.Proofs.Yteiogfmfcmfpjaa.P
theorem WireReads : timesynclaw02_WireReads.Pure := by
  intro l0 l1 hl _
  unfold timesynclaw02_WireReads.f
  refine if_pos fun x hx => ?_
  have := hl.2.2 x hx
  simp [Lit.wf, IntKind.bits, IntKind.signed, IntKind.min, IntKind.max] at this
  omega
end Go.Proofs.Yteiogfmfcmfpjaa.Pure
