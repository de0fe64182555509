/- A true duration lies within the bounds of what a clock counts of it. -/
import Derived.Test.YtfncdkklhmjgoaaPureE
import Derived.Test.YtfncdkklhmjgoaaPx20
namespace Go.Proofs.Ytfncdkklhmjgoaa.Pure
open Go.RowKit Go.Proofs.Ytfncdkklhmjgoaa.P Go.Proofs.YtfncdkklhmjgoaaW.PrintWords Go.Proofs.YtfncdkklhmjgoaaW.PrintLast Go.Proofs.YtfncdkklhmjgoaaW.PrintMore

theorem holds_in {d p tol : Int} (hd0 : 0 ≤ d) (hd1 : d ≤ 1125899906842624) (t1 : tol ≤ 500000) (p0 : -tol ≤ p) (p1 : p ≤ tol) (raw : Int) (h1 : d + d * p / 1000000000 ≤ raw) (h2 : raw ≤ d + d * p / 1000000000 + 1) (h3 : raw = d + d * p / 1000000000 + 1 → d * p % 1000000000 ≠ 0) :
    okEl raw tol ∧ lo raw tol ≤ d ∧ d ≤ hi raw tol := by
  have m1 : d * p ≤ d * tol := Int.mul_le_mul_of_nonneg_left p1 hd0
  have m2 : d * (-tol) ≤ d * p := Int.mul_le_mul_of_nonneg_left p0 hd0
  have m3 : d * tol ≤ d * 500000 := Int.mul_le_mul_of_nonneg_left t1 hd0
  rw [Int.mul_neg] at m2
  have t0 : 0 ≤ tol := by omega
  have hq := Int.mul_ediv_add_emod (d * p) 1000000000
  have hr0 : 0 ≤ d * p % 1000000000 := Int.emod_nonneg _ (by omega)
  have hr1 : d * p % 1000000000 < 1000000000 := Int.emod_lt_of_pos _ (by omega)
  generalize d * p % 1000000000 = r at *
  generalize d * p / 1000000000 = m at *
  generalize d * p = n at *
  have e1 : d * (1000000000 + tol) = d * 1000000000 + d * tol := Int.mul_add _ _ _
  have e2 : -d * (1000000000 - tol) = -d * 1000000000 + d * tol := by grind
  have ok : okEl raw tol := by unfold okEl; omega
  have hl : qLo raw tol < d := by unfold qLo; exact Int.ediv_lt_of_lt_mul (by omega) (by omega)
  have hh : qHi raw tol < -d := by unfold qHi; exact Int.ediv_lt_of_lt_mul (by omega) (by omega)
  refine ⟨ok, ?_, ?_⟩
  · unfold lo mx; split <;> omega
  · unfold hi; omega
theorem holds_loop (d tol first last : Int) (h : ∀ raw, first ≤ raw → raw ≤ last → okEl raw tol ∧ lo raw tol ≤ d ∧ d ≤ hi raw tol) (hl : last < 4503599627370496) (e : Nat) : ∀ (k : Nat) (raw : Int), first ≤ raw → last + 1 - raw = e → e < k → timesynclaw11_DriftHolds.l0 (k + 1) d tol last raw = some true := by
  induction e with
  | zero =>
    intro k raw h0 he hk
    simp only [timesynclaw11_DriftHolds.l0]
    obtain ⟨k, rfl⟩ : ∃ m, k = m + 1 := ⟨k - 1, by omega⟩
    rw [if_neg (by omega), awake_tells]; rfl
  | succ e ih =>
    intro k raw h0 he hk
    obtain ⟨k, rfl⟩ : ∃ m, k = m + 1 := ⟨k - 1, by omega⟩
    have hn := ih k (raw + 1) (by omega) (by omega) (by omega)
    obtain ⟨ok, h1, h2⟩ := h raw h0 (by omega)
    rw [timesynclaw11_DriftHolds.l0]
    rw [if_pos (by omega), elapsed_tells]
    unfold elaps
    rw [if_pos ok]
    simp only [Option.bind_some]
    rw [if_pos trivial, if_neg (by omega), if_neg (by omega), w64 (by unfold okEl at ok; omega) (by omega)]
    exact hn
theorem DriftHolds : timesynclaw11_DriftHolds.Pure := by
  intro d p tol wd wp wt
  have hd := i64_of wd; have hp := i64_of wp; have ht := i64_of wt
  unfold B.isI64 at hd hp ht
  have yes : ∀ k, timesynclaw11_DriftHolds.j0 (k + 2) d p tol true = some true := by
    intro k
    simp only [timesynclaw11_DriftHolds.j0]
    rw [if_pos trivial, awake_tells]; rfl
  refine ⟨10, ?_⟩
  unfold timesynclaw11_DriftHolds.f
  by_cases h0 : d < 0
  · rw [if_pos h0]; exact yes 8
  rw [if_neg h0]
  by_cases h1 : d > 1125899906842624
  · rw [if_pos h1]; exact yes 8
  rw [if_neg h1]
  by_cases h2 : tol < 0
  · rw [if_pos h2]; exact yes 8
  rw [if_neg h2]
  by_cases h3 : tol > 500000
  · rw [if_pos h3]; exact yes 8
  rw [if_neg h3, w64 (x := -tol) (by omega) (by omega)]
  by_cases h4 : p < -tol
  · rw [if_pos h4]; exact yes 8
  rw [if_neg h4]
  by_cases h5 : p > tol
  · rw [decide_eq_true h5]; exact yes 8
  rw [decide_eq_false h5]
  have m1 : d * p ≤ d * 500000 := Int.mul_le_mul_of_nonneg_left (by omega) (by omega)
  have m2 : d * (-500000) ≤ d * p := Int.mul_le_mul_of_nonneg_left (by omega) (by omega)
  have hin := fun raw => holds_in (d := d) (p := p) (tol := tol) (by omega) (by omega) (by omega) (by omega) (by omega) raw
  have e1 : timesyncref01_MulDiv.f d p 1000000000 = some (d * p / 1000000000, true) := by
    unfold timesyncref01_MulDiv.f
    rw [if_pos (by refine ⟨?_, ?_, ?_⟩ <;> unfold B.isI64 <;> omega), mulDiv_in (by omega) (by unfold B.isI64; omega)]
  have e2 : timesyncref01_MulDiv.f (wrap64 (-d)) p 1000000000 = some (-(d * p) / 1000000000, true) := by
    unfold timesyncref01_MulDiv.f
    rw [w64 (x := -d) (by omega) (by omega), if_pos (by refine ⟨?_, ?_, ?_⟩ <;> unfold B.isI64 <;> omega), mulDiv_in (by omega) (by rw [Int.neg_mul]; unfold B.isI64; omega), Int.neg_mul]
  simp only [timesynclaw11_DriftHolds.j0]
  rw [if_neg (by simp), e1, e2]
  simp only [Option.bind_some]
  rw [if_pos trivial, w64 (x := -(-(d * p) / 1000000000)) (by omega) (by omega), w64 (x := d + d * p / 1000000000) (by omega) (by omega), w64 (x := d + d * p / 1000000000 + 1) (by omega) (by omega)]
  by_cases hz : d * p / 1000000000 = -(-(d * p) / 1000000000)
  · rw [if_pos hz]
    simp only [timesynclaw11_DriftHolds.j1]
    rw [w64 (x := d + d * p / 1000000000) (by omega) (by omega)]
    refine holds_loop d tol (d + d * p / 1000000000) _ (fun raw a b => hin raw (by omega) (by omega) (by omega)) (by omega) 1 7 _ (by omega) (by omega) (by omega)
  · rw [if_neg hz]
    simp only [timesynclaw11_DriftHolds.j1]
    rw [w64 (x := d + d * p / 1000000000) (by omega) (by omega)]
    refine holds_loop d tol (d + d * p / 1000000000) _ (fun raw a b => hin raw (by omega) (by omega) (by omega)) (by omega) 2 7 _ (by omega) (by omega) (by omega)
end Go.Proofs.Ytfncdkklhmjgoaa.Pure
