/- The intersection has just the instants that both have, and the hull all that one has. -/
import Derived.Test.YtfncdkklhmjgoaaPureE
import Derived.Test.YtfncdkklhmjgoaaQDriftContains
namespace Go.Proofs.Ytfncdkklhmjgoaa.Pure
open Go.RowKit Go.Proofs.Ytfncdkklhmjgoaa.P Go.Proofs.YtfncdkklhmjgoaaW.PrintWords Go.Proofs.YtfncdkklhmjgoaaW.PrintLast Go.Proofs.YtfncdkklhmjgoaaW.PrintMore

theorem has_tells (a b t : Int) : drift_Has.f a b t = some (decide (okIv a b ∧ a ≤ t ∧ t ≤ b)) := by
  unfold drift_Has.f
  rw [check_tells]
  simp only [Option.bind_some]
  by_cases h : okIv a b
  · rw [if_pos h, if_pos rfl]
    by_cases h2 : a ≤ t
    · rw [if_pos h2]; simp [h, h2]
    · rw [if_neg h2]; simp [h2]
  · rw [if_neg h, if_neg (by omega)]; simp [h]
theorem j2_tells {a b c d t : Int} (h : okIv a b) (h' : okIv c d) (k : Nat) : timesynclaw11_DriftContains.j2 (k + 2) t false a b c d = some true := by
  rw [timesynclaw11_DriftContains.j2]
  rw [if_neg (by simp)]
  have hh : drift_Hull.f a b c d = some (mn a c, mx b d) := by
    unfold drift_Hull.f
    rw [check_tells, check_tells, if_pos h, if_pos h']; rfl
  have hw : ∀ s, (okIv a b ∧ a ≤ s ∧ s ≤ b) ∨ (okIv c d ∧ c ≤ s ∧ s ≤ d) → decide (okIv (mn a c) (mx b d) ∧ mn a c ≤ s ∧ s ≤ mx b d) = true := by
    intro s hs
    apply decide_eq_true
    unfold okIv at *
    unfold mn mx
    split <;> split <;> omega
  rw [has_tells, has_tells, hh, awake_tells]
  simp only [Option.bind_some, has_tells]
  by_cases h1 : okIv a b ∧ a ≤ t ∧ t ≤ b
  · rw [if_pos (decide_eq_true h1), if_pos (hw t (.inl h1))]; simp
  · rw [if_neg (by simpa using h1)]
    by_cases h2 : okIv c d ∧ c ≤ t ∧ t ≤ d
    · rw [if_pos (decide_eq_true h2), if_pos (hw t (.inr h2))]; simp
    · rw [if_neg (by simpa using h2)]; simp
theorem DriftContains : timesynclaw11_DriftContains.Pure := by
  intro x0 x1 t _ _ _
  refine ⟨10, ?_⟩
  generalize x0.f0 = a; generalize x0.f1 = b; generalize x1.f0 = c; generalize x1.f1 = d
  have yes : ∀ k, timesynclaw11_DriftContains.j0 (k + 2) t true a b c d = some true := by
    intro k
    rw [timesynclaw11_DriftContains.j0]
    rw [if_pos rfl, awake_tells]; rfl
  unfold timesynclaw11_DriftContains.f
  rw [check_tells, check_tells]
  simp only [Option.bind_some]
  by_cases h : okIv a b
  · rw [if_pos h, if_pos rfl]
    by_cases h' : okIv c d
    · rw [if_pos h']
      show timesynclaw11_DriftContains.j0 10 t false a b c d = some true
      rw [timesynclaw11_DriftContains.j0]
      rw [if_neg (by simp)]
      have hm : drift_Meet.f a b c d = some (if mx a c > mn b d then (0, 0, false) else (mx a c, mn b d, true)) := by
        unfold drift_Meet.f
        rw [check_tells, check_tells, if_pos h, if_pos h']
        simp only [Option.bind_some]
        rw [if_pos trivial, if_pos trivial]
        split <;> rfl
      have j2 := fun k => j2_tells (t := t) h h' k
      have main : ∀ both : Bool, both = decide ((okIv a b ∧ a ≤ t ∧ t ≤ b) ∧ (okIv c d ∧ c ≤ t ∧ t ≤ d)) → ∀ bt : Int × Int × Bool, bt = (if mx a c > mn b d then (0, 0, false) else (mx a c, mn b d, true)) → timesynclaw11_DriftContains.j1 9 t bt.2.2 both a b c d bt.1 bt.2.1 = some true := by
        rintro both rfl bt rfl
        rw [timesynclaw11_DriftContains.j1]
        by_cases hg : mx a c > mn b d
        · rw [if_pos hg, if_neg (by simp)]
          have : ¬ ((okIv a b ∧ a ≤ t ∧ t ≤ b) ∧ (okIv c d ∧ c ≤ t ∧ t ≤ d)) := by
            unfold mx mn at hg
            split at hg <;> split at hg <;> omega
          rw [if_neg (by simpa using this)]
          exact j2 6
        · rw [if_neg hg, if_pos rfl, has_tells]
          simp only [Option.bind_some]
          have hiff : (okIv (mx a c) (mn b d) ∧ mx a c ≤ t ∧ t ≤ mn b d) ↔ ((okIv a b ∧ a ≤ t ∧ t ≤ b) ∧ (okIv c d ∧ c ≤ t ∧ t ≤ d)) := by
            have e1 : (a < c ∧ mx a c = c) ∨ (¬ a < c ∧ mx a c = a) := by unfold mx; split <;> simp_all
            have e2 : (d < b ∧ mn b d = d) ∨ (¬ d < b ∧ mn b d = b) := by unfold mn; split <;> simp_all
            unfold okIv at *
            rcases e1 with ⟨_, e1⟩ | ⟨_, e1⟩ <;> rcases e2 with ⟨_, e2⟩ | ⟨_, e2⟩ <;> rw [e1, e2] at hg ⊢ <;> constructor <;> intro hx <;> omega
          by_cases hb : (okIv a b ∧ a ≤ t ∧ t ≤ b) ∧ (okIv c d ∧ c ≤ t ∧ t ≤ d)
          · rw [if_pos (decide_eq_true hb), if_pos (decide_eq_true (hiff.2 hb))]
            exact j2 6
          · rw [if_neg (by simpa using hb), if_neg (by simpa using fun hx => hb (hiff.1 hx))]
            exact j2 6
      rw [hm, has_tells, has_tells]
      simp only [Option.bind_some]
      by_cases h1 : okIv a b ∧ a ≤ t ∧ t ≤ b
      · rw [if_pos (decide_eq_true h1)]
        exact main _ (by simp [h1]) _ rfl
      · rw [if_neg (by simpa using h1)]
        exact main _ (by simp [h1]) _ rfl
    · rw [if_neg h']
      exact yes 8
  · rw [if_neg h, if_neg (by omega)]
    exact yes 8
end Go.Proofs.Ytfncdkklhmjgoaa.Pure
