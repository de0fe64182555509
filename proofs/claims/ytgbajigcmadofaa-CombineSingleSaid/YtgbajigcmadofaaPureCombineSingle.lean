/- The law CombineSingle over numbers. -/
import Derived.Test.YtgbajigcmadofaaQCombineSingle
import Derived.Test.YtgbajigcmadofaaPureC26d
namespace Go.Proofs.Ytgbajigcmadofaa.Pure
open Go.RowKit Go.Proofs.Ytgbajigcmadofaa.P Go.Proofs.YtgbajigcmadofaaW.PrintWords Go.Proofs.YtgbajigcmadofaaW.PrintLast Go.Proofs.YtgbajigcmadofaaW.PrintMore
theorem wt_anti (c d : S34) (h0 : 0 ≤ c.f2) (h : c.f2 ≤ d.f2) : wt d ≤ wt c := by
  have hd : c.f2 / 1000 ≤ d.f2 / 1000 := Int.ediv_le_ediv (by omega) h
  have hc : 0 ≤ c.f2 / 1000 := Int.ediv_nonneg h0 (by omega)
  have hq : 1073741824 / (d.f2 / 1000 + 1) ≤ 1073741824 / (c.f2 / 1000 + 1) := by
    generalize c.f2 / 1000 = a at *
    generalize d.f2 / 1000 = b at *
    have q0 : 0 ≤ (1073741824 : Int) / (b + 1) := Int.ediv_nonneg (by omega) (by omega)
    have q1 : (1073741824 : Int) / (b + 1) * (b + 1) ≤ 1073741824 := Int.ediv_mul_le _ (by omega)
    have q2 : (1073741824 : Int) / (b + 1) * (a + 1) ≤ (1073741824 : Int) / (b + 1) * (b + 1) := Int.mul_le_mul_of_nonneg_left (by omega) q0
    exact Int.le_ediv_of_mul_le (by omega) (Int.le_trans q2 q1)
  unfold wt mx
  split <;> split <;> omega
theorem one_good (c : S34) (h : chkAll [c] = 0) : P.Good [c] := ⟨h, by simp⟩
theorem one_mean (c : S34) (h : chkAll [c] = 0) : meanAll [c] = (c.f1, 0) := by
  have g := one_good c h
  have hv := g.valid c (List.mem_singleton_self c)
  unfold validC at hv
  obtain ⟨h1, h2, h3⟩ := g.mean_eq c.f1 c.f1 (fun x hx => by rw [List.mem_singleton] at hx; subst hx; omega) (by omega) (by omega)
  have e0 : (rd_T34 [c] 0).f1 = c.f1 := rfl
  have e1 : qs (val [c]) (sw [c]) [c] = 0 := by
    have hval : val [c] c = 0 := by unfold val; rw [e0, Int.sub_self]; exact w_small 0 (by omega) (by omega)
    unfold qs
    rw [hval, Int.mul_zero, Int.zero_ediv]
    rfl
  rw [h1, e1, e0, Int.add_zero]
theorem CombineSingle : timesynclaw26_CombineSingle.Pure := by
  intro c d _ _
  refine ⟨800, ?_⟩
  unfold timesynclaw26_CombineSingle.f
  have ec : (⟨c.f0, c.f1, c.f2, c.f3, c.f4⟩ : S34) = c := rfl
  rw [ec, check_cho [c] 800 (by omega), Option.bind_some]
  by_cases h : chkAll [c] = 0
  · rw [if_pos h, check_cho [_] 800 (by omega), Option.bind_some]
    generalize hd : (⟨c.f0, d.f1, d.f2, d.f3, d.f4⟩ : S34) = e
    have hd2 : e.f2 = d.f2 := by rw [← hd]
    by_cases h2 : chkAll [e] = 0
    · rw [h2, timesynclaw26_CombineSingle.j0, if_neg (by simp)]
      rw [hd, ec]
      simp only [Option.bind_some]
      rw [com_mean_f [c] 799 (by omega), one_mean c h, com_weights_f [c] h 799 (by omega), com_weights_f [e] h2 799 (by omega)]
      have gc := one_good c h
      have hvc := gc.valid c (List.mem_singleton_self c)
      have hve := (one_good e h2).valid e (List.mem_singleton_self e)
      have w1 := wt_range c hvc
      have w2 := wt_range e hve
      have hvc' := hvc
      unfold validC at hvc'
      have hj : ∃ b : Bool, b = false ∧ timesynclaw26_CombineSingle.j1 799 [c] c.f1 0 b c.f0 c.f1 c.f2 c.f3 c.f4 = some true := by
        refine ⟨_, rfl, ?_⟩
        rw [timesynclaw26_CombineSingle.j1, if_neg (by simp), if_pos rfl, if_pos rfl]
        obtain ⟨q, j1, j2, j3⟩ := gc.jitter c.f1 (one_mean c h) 0 (by omega) (by omega) (by omega) (fun x hx => by rw [List.mem_singleton] at hx; subst hx; rw [Int.sub_self]; decide) 798 (by omega)
        obtain rfl : q = 0 := by omega
        rw [j1, Option.bind_some, if_pos rfl]
        obtain ⟨d1, _⟩ := gc.dist c.f1 (one_mean c h) (by omega) (by omega) 798 (by omega)
        have e0 : (rd_T34 [c] 0) = c := rfl
        rw [e0, Int.sub_self] at d1
        have e1 : ab 0 = 0 := rfl
        rw [e1, Int.add_zero] at d1
        have e2 : dmin c.f1 [c] c.f2 = c.f2 := by
          unfold dmin dmin
          have ez : wrap64 (c.f1 - c.f1) = 0 := by rw [Int.sub_self]; exact w_small 0 (by omega) (by omega)
          have em : mx 0 0 = 0 := rfl
          have ew : wrap64 (c.f2 + 0) = c.f2 := by unfold wrap64; omega
          rw [ez, em, ew]
          unfold mn
          split <;> rfl
        rw [e2] at d1
        rw [d1, Option.bind_some, if_pos rfl, awake_more 798 (by omega)]
        rfl
      obtain ⟨b, hb, hj⟩ := hj
      subst hb
      have r1 : rd (List.map wt [c]) 0 = wt c := rfl
      have r2 : rd (List.map wt [e]) 0 = wt e := rfl
      simp only [Option.bind_some, r1, r2, List.length_map, List.length_cons, List.length_nil]
      rw [if_pos (by omega), if_pos (by omega), if_pos (by omega), if_neg (by omega)]
      by_cases hle : c.f2 ≤ d.f2
      · have ha := wt_anti c e (by omega) (by omega)
        rw [if_pos hle, if_pos (by omega), decide_eq_false (by omega)]
        exact hj
      · rw [if_neg hle]
        exact hj
    · have e1 : (chkAll [e] != 0) = true := by simpa using h2
      rw [e1, timesynclaw26_CombineSingle.j0, if_pos rfl, awake_more 799 (by omega)]
      rfl
  · rw [if_neg h, timesynclaw26_CombineSingle.j0, if_pos rfl, awake_more 799 (by omega)]
    rfl
end Go.Proofs.Ytgbajigcmadofaa.Pure
