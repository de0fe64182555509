/- same of a list with itself; the examples with more fuel. -/
import Derived.Test.YtpmkggcmnelhhaaPx10
import Derived.Test.YtpmkggcmnelhhaaPureAwk19
namespace Go.Proofs.Ytpmkggcmnelhhaa.P
open Go.RowKit Go.Proofs.YtpmkggcmnelhhaaW.PrintWords Go.Proofs.YtpmkggcmnelhhaaW.PrintLast Go.Proofs.YtpmkggcmnelhhaaW.PrintMore

theorem same_l0 (l : List Int) (hl : l.length ≤ 140737488355328) : ∀ (d i k : Nat), l.length = i + d → d < k → timesynclaw19_same.l0 k l l i = some true := by
  intro d
  induction d with
  | zero =>
    intro i k hi hk
    obtain ⟨k, rfl⟩ : ∃ k', k = k' + 1 := ⟨k - 1, by omega⟩
    rw [timesynclaw19_same.l0, if_neg (by omega)]
  | succ d ih =>
    intro i k hi hk
    obtain ⟨k, rfl⟩ : ∃ k', k = k' + 1 := ⟨k - 1, by omega⟩
    have e2 : wrap64 ((i : Int) + 1) = ((i + 1 : Nat) : Int) := by unfold wrap64; omega
    rw [timesynclaw19_same.l0, if_pos (by omega), if_pos (by omega), if_pos (by omega), if_pos rfl, e2]
    exact ih (i + 1) k (by omega) (by omega)
theorem same_self (l : List Int) (hl : l.length ≤ 140737488355328) (k : Nat) (hk : l.length < k) : timesynclaw19_same.f k l l = some true := by
  unfold timesynclaw19_same.f
  rw [if_pos rfl]
  exact same_l0 l hl l.length 0 k (by omega) hk
theorem awake_more (k : Nat) (hk : 60 ≤ k) : timesynclaw19_awake.f k = some true := by
  have h : ∀ d : Nat, timesynclaw19_awake.f (60 + d) = some true := by
    intro d
    induction d with
    | zero => exact awake_ok
    | succ d ih => exact timesynclaw19_awake.mono (60 + d) _ ih
  obtain ⟨d, rfl⟩ : ∃ d, k = 60 + d := ⟨k - 60, by omega⟩
  exact h d
end Go.Proofs.Ytpmkggcmnelhhaa.P
