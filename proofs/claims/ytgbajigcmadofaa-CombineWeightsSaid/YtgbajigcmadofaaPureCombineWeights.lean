/- The law CombineWeights over lists. -/
import Derived.Test.YtgbajigcmadofaaQCombineWeights
import Derived.Test.YtgbajigcmadofaaPureC26b
namespace Go.Proofs.Ytgbajigcmadofaa.Pure
open Go.RowKit Go.Proofs.Ytgbajigcmadofaa.P Go.Proofs.YtgbajigcmadofaaW.PrintWords Go.Proofs.YtgbajigcmadofaaW.PrintLast Go.Proofs.YtgbajigcmadofaaW.PrintMore
theorem eq_l0 (l : List Int) (hl : l.length ≤ 140737488355328) : ∀ (d i k : Nat), l.length = i + d → d < k → slices_Equal_int_int.l0 k l l l.length i = some true := by
  intro d
  induction d with
  | zero =>
    intro i k hi hk
    obtain ⟨k, rfl⟩ : ∃ k', k = k' + 1 := ⟨k - 1, by omega⟩
    rw [slices_Equal_int_int.l0, if_neg (by omega)]
  | succ d ih =>
    intro i k hi hk
    obtain ⟨k, rfl⟩ : ∃ k', k = k' + 1 := ⟨k - 1, by omega⟩
    have e2 : wrap64 ((i : Int) + 1) = ((i + 1 : Nat) : Int) := by unfold wrap64; omega
    rw [slices_Equal_int_int.l0, if_pos (by omega), if_pos (by omega), if_pos (by omega), if_pos (by omega), if_pos rfl, e2]
    exact ih (i + 1) k (by omega) (by omega)
theorem eq_self (l : List Int) (hl : l.length ≤ 140737488355328) (k : Nat) (hk : l.length < k) : slices_Equal_int_int.f k l l = some true := by
  unfold slices_Equal_int_int.f
  rw [if_pos rfl]
  exact eq_l0 l hl l.length 0 k (by omega) hk
theorem CombineWeights : timesynclaw26_CombineWeights.Pure := by
  intro l _
  refine ⟨500, ?_⟩
  unfold timesynclaw26_CombineWeights.f
  split
  · rfl
  · rename_i hl
    have hW : ∃ W : List Int, W.length ≤ 40 ∧ combine_Weights.f 500 l = some W ∧ timesyncref26_Weights.f 500 l = some W := by
      by_cases h : chkAll l = 0
      · exact ⟨l.map wt, by rw [List.length_map]; omega, com_weights_f l h 500 (by omega), ref_weights_f l h 500 (by omega)⟩
      · refine ⟨[], by simp, ?_, ?_⟩
        · unfold combine_Weights.f
          rw [check_cho l 500 (by omega), Option.bind_some, if_neg h]
        · unfold timesyncref26_Weights.f
          rw [check_ref l 500 (by omega), Option.bind_some, if_neg h]
    obtain ⟨W, hlen, h1, h2⟩ := hW
    rw [awake_more 500 (by omega), h1, h2]
    simp only [Option.bind_some]
    rw [eq_self W (by omega) 500 (by omega)]
    rfl
end Go.Proofs.Ytgbajigcmadofaa.Pure
