/- An interval that is aged is no narrower; aged by more it does not end earlier, and by a greater tolerance it contains what it was. -/
import Derived.Test.YtfncdkklhmjgoaaPureE
import Derived.Test.YtfncdkklhmjgoaaPureB
import Derived.Test.YtfncdkklhmjgoaaQDriftWidens
namespace Go.Proofs.Ytfncdkklhmjgoaa.Pure
open Go.RowKit Go.Proofs.Ytfncdkklhmjgoaa.P Go.Proofs.YtfncdkklhmjgoaaW.PrintWords Go.Proofs.YtfncdkklhmjgoaaW.PrintLast Go.Proofs.YtfncdkklhmjgoaaW.PrintMore

/-! ### quotients, rounded down, as their parts grow -/
theorem quo_mono {a b c : Int} (hc : 0 < c) (h : a ≤ b) : a / c ≤ b / c := Int.ediv_le_ediv hc h
theorem quo_den {n c c' : Int} (hn : 0 ≤ n) (hc : 0 < c) (h : c ≤ c') : n / c' ≤ n / c := by
  have hq : 0 ≤ n / c' := Int.ediv_nonneg hn (by omega)
  refine Int.le_ediv_of_mul_le hc ?_
  have h1 : n / c' * c ≤ n / c' * c' := Int.mul_le_mul_of_nonneg_left h hq
  have h2 : n / c' * c' ≤ n := Int.ediv_mul_le _ (by omega)
  omega
theorem quo_den_neg {n c c' : Int} (hn : n ≤ 0) (hc : 0 < c') (h : c' ≤ c) : n / c' ≤ n / c := by
  have hq : n / c' ≤ 0 := by
    have := quo_mono (c := c') hc hn
    simpa using this
  refine Int.le_ediv_of_mul_le (by omega) ?_
  have h1 : n / c' * c ≤ n / c' * c' := Int.mul_le_mul_of_nonpos_left hq h
  have h2 : n / c' * c' ≤ n := Int.ediv_mul_le _ (by omega)
  omega
theorem lo_raw {r s t : Int} (h : okEl r t) (_h' : okEl s t) (hrs : r ≤ s) : lo r t ≤ lo s t := by
  have : qLo r t ≤ qLo s t := by unfold qLo; exact quo_mono (by unfold okEl at h; omega) (by omega)
  unfold lo mx; split <;> split <;> omega
theorem hi_raw {r s t : Int} (h : okEl r t) (_h' : okEl s t) (hrs : r ≤ s) : hi r t ≤ hi s t := by
  have : qHi s t ≤ qHi r t := by unfold qHi; exact quo_mono (by unfold okEl at h; omega) (by omega)
  unfold hi; omega
theorem lo_tol {r t : Int} (h : okEl r t) (h' : okEl r (t + 1)) : lo r (t + 1) ≤ lo r t := by
  by_cases hr : r = 0
  · have a := lo_hi h; have b := lo_hi h'; omega
  · have : qLo r (t + 1) ≤ qLo r t := by unfold qLo; exact quo_den (by unfold okEl at h; omega) (by unfold okEl at h; omega) (by omega)
    unfold lo mx; split <;> split <;> omega
theorem hi_tol {r t : Int} (h : okEl r t) (h' : okEl r (t + 1)) : hi r t ≤ hi r (t + 1) := by
  have : qHi r (t + 1) ≤ qHi r t := by unfold qHi; exact quo_den_neg (by unfold okEl at h; omega) (by unfold okEl at h'; omega) (by omega)
  unfold hi; omega

/-- The width of a valid interval. -/
def wide (a b : Int) : Int := if b - a ≤ 9223372036854775807 then b - a else 9223372036854775807
theorem width_tells {a b : Int} (h : okIv a b) : drift_Width.f a b = some (wide a b) := by
  unfold drift_Width.f
  rw [check_tells, if_pos h]
  simp only [Option.bind_some]
  rw [if_pos trivial]
  obtain ⟨h0, h1, h2⟩ := h
  have hs := sub_signs (a := b) (b := a) (by omega) (by omega) (by omega) (by omega)
  unfold fixed_Sub.f wide
  by_cases hd : b - a ≤ 9223372036854775807
  · rw [if_neg (by rw [hs]; omega), if_pos hd]
    simp only [Option.bind_some]
    rw [if_pos trivial, w64 (by omega) (by omega)]
  · rw [if_pos (by rw [hs]; omega), if_neg hd]
    simp
theorem aged_ok {a b r t : Int} (h : (aged a b r t).2.2 = 0) : okIv a b ∧ okEl r t ∧ okIv (a + lo r t) (b + hi r t) ∧ aged a b r t = (a + lo r t, b + hi r t, 0) := by
  unfold aged at h ⊢
  by_cases h1 : okIv a b
  · rw [if_pos h1] at h ⊢
    by_cases h2 : okEl r t
    · rw [if_pos h2] at h ⊢
      have hl := lo_hi h2
      have hr := h2.2.1
      obtain ⟨i0, i1, i2⟩ := h1
      rw [w64 (x := a + lo r t) (by omega) (by omega), w64 (x := b + hi r t) (by omega) (by omega)] at h ⊢
      unfold vald at h ⊢
      by_cases h3 : okIv (a + lo r t) (b + hi r t)
      · rw [if_pos h3]; exact ⟨⟨i0, i1, i2⟩, h2, h3, rfl⟩
      · rw [if_neg h3] at h; simp at h
    · rw [if_neg h2] at h; simp at h
  · rw [if_neg h1] at h; simp at h

theorem DriftWidens : timesynclaw11_DriftWidens.Pure := by
  intro x0 r m x3 _ wr wm w3
  have hr := i64_of wr; have hm := i64_of wm; have h3 := bounds_u32 w3
  unfold B.isI64 at hr hm
  generalize x0.f0 = a; generalize x0.f1 = b
  have yes : ∀ k t, timesynclaw11_DriftWidens.j0 (k + 2) r m t true a b = some true := by
    intro k t
    rw [timesynclaw11_DriftWidens.j0]
    rw [if_pos rfl, awake_tells]; rfl
  have e3 : Int.tmod x3 500000 = x3 % 500000 := Int.tmod_eq_emod_of_nonneg h3.1
  have et : wrap64 (Int.tmod x3 500000) = x3 % 500000 := by rw [e3]; exact w64 (by omega) (by omega)
  refine ⟨10, ?_⟩
  unfold timesynclaw11_DriftWidens.f
  rw [et]
  have ht0 : 0 ≤ x3 % 500000 := by omega
  have ht1 : x3 % 500000 < 500000 := by omega
  generalize x3 % 500000 = t at *
  by_cases h0 : r < 0
  · rw [if_pos h0]; exact yes 8 t
  rw [if_neg h0]
  by_cases h1 : r > 1125899906842624
  · rw [if_pos h1]; exact yes 8 t
  rw [if_neg h1]
  by_cases h2 : m < 0
  · rw [if_pos h2]; exact yes 8 t
  rw [if_neg h2]
  by_cases h4 : m > 1125899906842624
  · rw [decide_eq_true h4]; exact yes 8 t
  rw [decide_eq_false h4]
  have yes1 : ∀ k a0 b0 a1 b1 a2 b2 a3 b3, timesynclaw11_DriftWidens.j1 (k + 2) true a0 b0 a1 b1 a2 b2 a3 b3 = some true := by
    intro k a0 b0 a1 b1 a2 b2 a3 b3
    rw [timesynclaw11_DriftWidens.j1]
    rw [if_pos rfl, awake_tells]; rfl
  rw [timesynclaw11_DriftWidens.j0]
  rw [if_neg (by simp), w64 (x := r + m) (by omega) (by omega), w64 (x := t + 1) (by omega) (by omega), age_tells, age_tells, age_tells]
  simp only [Option.bind_some]
  by_cases e1 : ¬ (aged a b r t).2.2 = 0
  · rw [if_neg e1]; exact yes1 7 _ _ _ _ _ _ _ _
  replace e1 := Decidable.of_not_not e1
  rw [if_pos e1]
  by_cases e2 : ¬ (aged a b (r + m) t).2.2 = 0
  · rw [if_neg e2]; exact yes1 7 _ _ _ _ _ _ _ _
  replace e2 := Decidable.of_not_not e2
  rw [if_pos e2]
  by_cases e4 : ¬ (aged a b r (t + 1)).2.2 = 0
  · rw [show ((aged a b r (t + 1)).2.2 != 0) = true by simpa using e4]; exact yes1 7 _ _ _ _ _ _ _ _
  replace e4 := Decidable.of_not_not e4
  rw [show ((aged a b r (t + 1)).2.2 != 0) = false by simpa using e4]
  obtain ⟨o1, o2, o3, q1⟩ := aged_ok e1
  obtain ⟨_, p2, _, q2⟩ := aged_ok e2
  obtain ⟨_, s2, _, q3⟩ := aged_ok e4
  rw [q1, q2, q3]
  have l1 := lo_hi o2
  have g1 := lo_raw o2 p2 (by omega)
  have g2 := hi_raw o2 p2 (by omega)
  have g3 := lo_tol o2 s2
  have g4 := hi_tol o2 s2
  rw [timesynclaw11_DriftWidens.j1]
  simp only [width_tells o3, width_tells o1, Option.bind_some]
  rw [if_neg (by simp), if_pos (by unfold wide; split <;> split <;> omega), if_pos (by omega), if_pos (by omega), if_pos (by omega), if_pos (by omega), awake_tells]
  rfl
end Go.Proofs.Ytfncdkklhmjgoaa.Pure
