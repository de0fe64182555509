/- The law CombineMeans over lists. -/
import Derived.Test.YtgbajigcmadofaaQCombineMeans
import Derived.Test.YtgbajigcmadofaaPureC26b
namespace Go.Proofs.Ytgbajigcmadofaa.Pure
open Go.RowKit Go.Proofs.Ytgbajigcmadofaa.P
theorem CombineMeans : timesynclaw26_CombineMeans.Pure := by
  intro l _
  refine ⟨500, ?_⟩
  unfold timesynclaw26_CombineMeans.f
  rw [awake_more 500 (by omega), com_mean_f l 500 (by omega), ref_mean_f l 500 (by omega)]
  split
  · rfl
  · simp
end Go.Proofs.Ytgbajigcmadofaa.Pure
