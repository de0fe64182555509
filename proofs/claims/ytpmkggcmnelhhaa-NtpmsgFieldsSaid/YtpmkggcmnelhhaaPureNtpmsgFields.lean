/- The law NtpmsgFields over numbers: the walk has shown it whole. -/
import Derived.Test.YtpmkggcmnelhhaaQNtpmsgFields
namespace Go.Proofs.Ytpmkggcmnelhhaa.Pure
open Go.RowKit Go.Proofs.Ytpmkggcmnelhhaa.P
theorem NtpmsgFields : timesynclaw19_NtpmsgFields.Pure := by
  intro x hx
  obtain ⟨h0, h1, h2, h3, h4, h5, h6, h7, h8, h9, h10, h11, h12⟩ := hx
  simp [Lit.wf, IntKind.bits, IntKind.signed, IntKind.min, IntKind.max] at h6 h7 h8 h9 h10 h11 h12
  unfold timesynclaw19_NtpmsgFields.f
  exact if_pos ⟨by omega, by omega, by omega, by omega, by omega, by omega, by omega⟩
end Go.Proofs.Ytpmkggcmnelhhaa.Pure
