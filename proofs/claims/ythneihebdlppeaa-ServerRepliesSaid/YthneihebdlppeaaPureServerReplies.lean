/- The law ServerReplies over numbers. -/
import Derived.Test.YthneihebdlppeaaQServerReplies
import Derived.Test.YthneihebdlppeaaPureRep30
namespace Go.Proofs.Ythneihebdlppeaa.Pure
open Go.RowKit Go.Proofs.Ythneihebdlppeaa.P
theorem ServerReplies : timesynclaw30_ServerReplies.Pure := by
  intro x y z leap prec _ _ _ _ _
  refine ⟨101, ?_⟩
  unfold timesynclaw30_ServerReplies.f
  rw [reply_ok 100, reply_ref 100, awake_more 101 (by omega)]
  simp
end Go.Proofs.Ythneihebdlppeaa.Pure
