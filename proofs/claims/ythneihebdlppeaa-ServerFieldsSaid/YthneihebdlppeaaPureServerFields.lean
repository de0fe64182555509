/- The law ServerFields over numbers and lists. -/
import Derived.Test.YthneihebdlppeaaQServerFields
import Derived.Test.YthneihebdlppeaaPureRefIv30
import Derived.Test.YthneihebdlppeaaPureAwk30
namespace Go.Proofs.Ythneihebdlppeaa.Pure
open Go.RowKit Go.Proofs.Ythneihebdlppeaa.P Go.Proofs.YthneihebdlppeaaW.PrintWords Go.Proofs.YthneihebdlppeaaW.PrintLast Go.Proofs.YthneihebdlppeaaW.PrintMore Go.Proofs.Ythneihebdlppeaa.Rd

theorem mn_eq (a b : Int) : mn a b = min a b := by first | rfl | (unfold mn; omega)
theorem ServerFields : timesynclaw30_ServerFields.Pure := by
  intro iv l _ hl
  obtain ⟨_, _, hok⟩ := hl
  refine ⟨1000, ?_⟩
  have hm : mn (l.length : Int) 200 = ((min l.length 200 : Nat) : Int) := by rw [mn_eq]; omega
  have hlen : (l.take (min l.length 200)).length ≤ 200 := by rw [List.length_take]; omega
  have hs : ∀ x ∈ l.take (min l.length 200), x.f1.length < 140737488355328 ∧ bytesOk x.f1 := by
    intro x hx
    obtain ⟨_, _, h2, h3⟩ := hok x (List.mem_of_mem_take hx)
    refine ⟨by unfold bytes5 reachBytes at h2; omega, fun y hy => ?_⟩
    have := h3 y hy
    simp [Lit.wf, IntKind.bits, IntKind.signed, IntKind.min, IntKind.max] at this
    omega
  have hF : (fieldV iv.f0 iv.f1).2.1.length ≤ 16 := by
    unfold fieldV
    split
    · simp only [List.length_append, be_length]; omega
    · simp
  unfold timesynclaw30_ServerFields.f timesynclaw30_same.f
  rw [hm, if_pos (by omega), if_pos (by omega), Option.bind_some, Int.toNat_natCast, field_eq, Option.bind_some, ref_field _ _ _ (by omega), Option.bind_some,
    interval_eq _ (by omega) hs _ (by omega), Option.bind_some, ref_interval _ (by omega) (fun x hx => (hs x hx).2) _ (by omega), Option.bind_some, if_pos rfl, eqs_self _ (by omega) _ (by omega), Option.bind_some, awk30 _ (by omega)]
  simp
end Go.Proofs.Ythneihebdlppeaa.Pure
