/- The law NtpmsgDecodes over numbers and lists. -/
import Derived.Test.YtpmkggcmnelhhaaPx20
import Derived.Test.YtpmkggcmnelhhaaPureRef19
import Derived.Test.YtpmkggcmnelhhaaPureSame19
namespace Go.Proofs.Ytpmkggcmnelhhaa.Pure
open Go.RowKit Go.Proofs.Ytpmkggcmnelhhaa.P Go.Proofs.YtpmkggcmnelhhaaW.PrintWords Go.Proofs.YtpmkggcmnelhhaaW.PrintLast Go.Proofs.YtpmkggcmnelhhaaW.PrintMore Go.Proofs.Ytpmkggcmnelhhaa.Rd

theorem dec_some (l : List Int) (hb : bytesOk l) (hl : l.length ≤ 2000) : ∃ r, ntpmsg_Decode.f l = some r ∧ r.2.2.2.2.2.2.2.2.2.2.2.2.2.1.length ≤ 2000 := by
  unfold ntpmsg_Decode.f
  split
  · exact ⟨_, rfl, by simp⟩
  · rw [if_pos ⟨by omega, hb⟩]
    split
    · exact ⟨_, rfl, by simp⟩
    · exact ⟨_, rfl, by simp; omega⟩
theorem NtpmsgDecodes : timesynclaw19_NtpmsgDecodes.Pure := by
  intro l hl _ hb
  refine ⟨2100, ?_⟩
  have hb' : bytesOk l := by
    intro y hy
    have := hb y hy
    simp [Lit.wf, IntKind.bits, IntKind.signed, IntKind.min, IntKind.max] at this
    omega
  unfold timesynclaw19_NtpmsgDecodes.f
  by_cases hlen : (l.length : Int) > 2000
  · rw [if_pos hlen, awake_more _ (by omega)]
    rfl
  rw [if_neg hlen, refdec l hb' (by omega) 2100 (by omega)]
  obtain ⟨r, hr, hrl⟩ := dec_some l hb' (by omega)
  rw [hr]
  simp only [Option.bind_some, beq_self_eq_true, Bool.and_self, if_true]
  rw [same_self _ (by omega) 2100 (by omega), awake_more _ (by omega)]
  rfl
end Go.Proofs.Ytpmkggcmnelhhaa.Pure
