/- The law WireGets over numbers and lists. -/
import Derived.Test.YteiogfmfcmfpjaaPx5
namespace Go.Proofs.Yteiogfmfcmfpjaa.Pure
open Go.RowKit Go.Proofs.Yteiogfmfcmfpjaa.P Go.Proofs.YteiogfmfcmfpjaaW.PrintWords Go.Proofs.YteiogfmfcmfpjaaW.PrintLast Go.Proofs.YteiogfmfcmfpjaaW.PrintMore

theorem get_both (x0 : List Int) (x1 : Int) (s : Nat) (hs : s ≤ 8) (h0 : 0 ≤ x1) (h1 : x1 + s ≤ x0.length) (hl : x0.length ≤ 9223372036854775807) : ∀ (n i k k2 : Nat) (v : Int), i + n = s → n < k → n < k2 →
    ∃ r, wire_Get.l0 k x0 x1 v s i = some (r, 0) ∧ timesyncref02_Get.l0 k2 x0 x1 s v i = some (r, 0) := by
  intro n
  induction n with
  | zero =>
    intro i k k2 v hi hk hk2
    obtain ⟨k, rfl⟩ : ∃ k', k = k' + 1 := ⟨k - 1, by omega⟩
    obtain ⟨k2, rfl⟩ : ∃ k', k2 = k' + 1 := ⟨k2 - 1, by omega⟩
    exact ⟨v, by rw [wire_Get.l0, if_neg (by omega)], by rw [timesyncref02_Get.l0, if_neg (by omega)]⟩
  | succ n ih =>
    intro i k k2 v hi hk hk2
    obtain ⟨k, rfl⟩ : ∃ k', k = k' + 1 := ⟨k - 1, by omega⟩
    obtain ⟨k2, rfl⟩ : ∃ k', k2 = k' + 1 := ⟨k2 - 1, by omega⟩
    have e1 : wrap64 (x1 + i) = x1 + i := by unfold wrap64; omega
    have e2 : wrap64 ((i : Int) + 1) = ((i + 1 : Nat) : Int) := by unfold wrap64; omega
    rw [wire_Get.l0, timesyncref02_Get.l0, if_pos (by omega), if_pos (by omega), e1, e2, if_pos (by omega), if_pos (by omega), if_pos (by omega), if_pos (by omega)]
    exact ih (i + 1) k k2 _ (by omega) (by omega) (by omega)
theorem WireGets : timesynclaw02_WireGets.Pure := by
  intro l a s hl _ _ ha hs
  refine ⟨20, ?_⟩
  have hl' : l.length ≤ 9223372036854775807 := hl
  simp [Lit.wf, IntKind.bits, IntKind.signed, IntKind.min, IntKind.max] at ha hs
  have hr : ∃ r, wire_Get.f 20 l a s = some r ∧ timesyncref02_Get.f 20 l a s = some r := by
    unfold wire_Get.f timesyncref02_Get.f wire_right.f
    by_cases h1 : 1 ≤ s
    · by_cases h8 : s ≤ 8
      · rw [if_pos (show s ≥ 1 by omega), if_neg (show ¬ s < 1 by omega), decide_eq_false (by omega : ¬ s > 8)]
        have e1 : wrap64 ((l.length : Int) - s) = l.length - s := by unfold wrap64; omega
        simp only [Option.bind_some, h8, decide_true, if_true, timesyncref02_Get.j0, Bool.false_eq_true, if_false]
        by_cases h0 : a < 0
        · rw [if_pos h0, if_pos h0]
          simp [wire_Get.j0, timesyncref02_Get.j1]
        · rw [if_neg h0, if_neg h0, e1]
          by_cases h2 : a > (l.length : Int)
          · rw [if_pos h2, decide_eq_true (by omega)]
            simp [wire_Get.j0, timesyncref02_Get.j1]
          · rw [if_neg h2]
            have e2 : wrap64 ((l.length : Int) - a) = l.length - a := by unfold wrap64; omega
            rw [e2]
            by_cases h3 : (l.length : Int) - a < s
            · rw [decide_eq_true h3, decide_eq_true (by omega)]
              simp [wire_Get.j0, timesyncref02_Get.j1]
            · rw [decide_eq_false h3, decide_eq_false (by omega)]
              simp only [wire_Get.j0, timesyncref02_Get.j1, Bool.false_eq_true, if_false]
              obtain ⟨m, rfl⟩ := Int.eq_ofNat_of_zero_le (show 0 ≤ s by omega)
              obtain ⟨r, g1, g2⟩ := get_both l a m (by omega) (by omega) (by omega) hl' m 0 19 18 0 (by omega) (by omega) (by omega)
              exact ⟨_, g1, g2⟩
      · rw [if_pos (show s ≥ 1 by omega), if_neg (show ¬ s < 1 by omega), decide_eq_true (by omega : s > 8), decide_eq_false h8]
        exact ⟨_, rfl, rfl⟩
    · rw [if_neg (show ¬ s ≥ 1 by omega), if_pos (show s < 1 by omega)]
      exact ⟨_, rfl, rfl⟩
  obtain ⟨r, g1, g2⟩ := hr
  unfold timesynclaw02_WireGets.f
  rw [g1, g2]
  simp [timesynclaw02_awake.f]
end Go.Proofs.Yteiogfmfcmfpjaa.Pure
