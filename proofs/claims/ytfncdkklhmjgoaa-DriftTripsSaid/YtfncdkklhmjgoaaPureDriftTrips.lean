/- Trip of the program answers as the reference's does, for all intervals and numbers. -/
import Derived.Test.YtfncdkklhmjgoaaPureE
import Derived.Test.YtfncdkklhmjgoaaQDriftTrips
namespace Go.Proofs.Ytfncdkklhmjgoaa.Pure
open Go.RowKit Go.Proofs.Ytfncdkklhmjgoaa.P Go.Proofs.YtfncdkklhmjgoaaW.PrintWords Go.Proofs.YtfncdkklhmjgoaaW.PrintLast Go.Proofs.YtfncdkklhmjgoaaW.PrintMore

theorem trips_loop (x1 x2 : Int) (l : List Int) (hl : l.length ≤ 3) (a b : Int) (d : Nat) : ∀ (k : Nat) (i : Int), 0 ≤ i → i ≤ l.length → (l.length : Int) - i = d → d < k → timesynclaw11_DriftTrips.l0 (k + 1) x1 x2 l (l.length : Int) i a b = some true := by
  induction d with
  | zero =>
    intro k i h0 h1 hd hk
    obtain ⟨k, rfl⟩ : ∃ m, k = m + 1 := ⟨k - 1, by omega⟩
    simp only [timesynclaw11_DriftTrips.l0]
    rw [if_neg (by omega), awake_tells]; rfl
  | succ d ih =>
    intro k i h0 h1 hd hk
    obtain ⟨k, rfl⟩ : ∃ m, k = m + 1 := ⟨k - 1, by omega⟩
    have h := ih k (i + 1) (by omega) (by omega) (by omega) (by omega)
    rw [timesynclaw11_DriftTrips.l0]
    rw [if_pos (by omega), if_pos h0, if_pos (by omega), trip_tells, trip_tellsR]
    simp only [Option.bind_some]
    rw [if_neg (by simp), if_pos trivial, w64 (by omega) (by omega)]
    exact h
theorem DriftTrips : timesynclaw11_DriftTrips.Pure := by
  intro x0 x1 x2 x3 _ _ _ _
  refine ⟨10, ?_⟩
  unfold timesynclaw11_DriftTrips.f
  simp only [Option.bind_some]
  exact trips_loop _ _ _ (by simp) _ _ 3 9 0 (by omega) (by omega) (by simp) (by omega)
end Go.Proofs.Ytfncdkklhmjgoaa.Pure
