/- The law WireApart: the walk has shown it whole. -/
import Derived.Test.YteiogfmfcmfpjaaQWireApart
namespace Go.Proofs.Yteiogfmfcmfpjaa.Pure
open Go.RowKit Go.Proofs.Yteiogfmfcmfpjaa.P
theorem WireApart : timesynclaw02_WireApart.Pure := by
  intro l a1 hl _
  unfold timesynclaw02_WireApart.f
  refine if_pos fun x hx => ?_
  have := hl.2.2 x hx
  simp [Lit.wf, IntKind.bits, IntKind.signed, IntKind.min, IntKind.max] at this
  omega
end Go.Proofs.Yteiogfmfcmfpjaa.Pure
