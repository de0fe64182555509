/- The law CombineBetween over lists. -/
import Derived.Test.YtgbajigcmadofaaQCombineBetween
import Derived.Test.YtgbajigcmadofaaPureC26d
namespace Go.Proofs.Ytgbajigcmadofaa.Pure
open Go.RowKit Go.Proofs.Ytgbajigcmadofaa.P Go.Proofs.YtgbajigcmadofaaW.PrintWords Go.Proofs.YtgbajigcmadofaaW.PrintLast Go.Proofs.YtgbajigcmadofaaW.PrintMore

/-- The least and the greatest offset, gathered from the front. -/
def lows : List S34 → Int → Int
  | [], x => x
  | c :: t, x => lows t (mn x c.f1)
def highs : List S34 → Int → Int
  | [], x => x
  | c :: t, x => highs t (mx x c.f1)
theorem lows_props (l : List S34) : ∀ x, lows l x ≤ x ∧ ∀ c ∈ l, lows l x ≤ c.f1 := by
  induction l with
  | nil => intro x; exact ⟨Int.le_refl _, fun c hc => by cases hc⟩
  | cons c t ih =>
    intro x
    obtain ⟨a, b⟩ := ih (mn x c.f1)
    have h : mn x c.f1 ≤ x ∧ mn x c.f1 ≤ c.f1 := by unfold mn; split <;> omega
    rw [lows]
    refine ⟨by omega, fun y hy => ?_⟩
    rcases List.mem_cons.1 hy with rfl | hy
    · omega
    · exact b y hy
theorem highs_props (l : List S34) : ∀ x, x ≤ highs l x ∧ ∀ c ∈ l, c.f1 ≤ highs l x := by
  induction l with
  | nil => intro x; exact ⟨Int.le_refl _, fun c hc => by cases hc⟩
  | cons c t ih =>
    intro x
    obtain ⟨a, b⟩ := ih (mx x c.f1)
    have h : x ≤ mx x c.f1 ∧ c.f1 ≤ mx x c.f1 := by unfold mx; split <;> omega
    rw [highs]
    refine ⟨by omega, fun y hy => ?_⟩
    rcases List.mem_cons.1 hy with rfl | hy
    · omega
    · exact b y hy
theorem lows_ge (l : List S34) (M : Int) : ∀ x, M ≤ x → (∀ c ∈ l, M ≤ c.f1) → M ≤ lows l x := by
  induction l with
  | nil => intro x h _; exact h
  | cons c t ih =>
    intro x h hc
    have h1 := hc c (List.mem_cons_self ..)
    exact ih _ (by unfold mn; split <;> omega) (fun y hy => hc y (List.mem_cons_of_mem _ hy))
theorem highs_le (l : List S34) (M : Int) : ∀ x, x ≤ M → (∀ c ∈ l, c.f1 ≤ M) → highs l x ≤ M := by
  induction l with
  | nil => intro x h _; exact h
  | cons c t ih =>
    intro x h hc
    have h1 := hc c (List.mem_cons_self ..)
    exact ih _ (by unfold mx; split <;> omega) (fun y hy => hc y (List.mem_cons_of_mem _ hy))
theorem second (l : List S34) (m lo hi d : Int) (hl : l.length ≤ 12) (hv : ∀ c ∈ l, validC c) (hm1 : -9007199254740992 ≤ m) (hm2 : m ≤ 9007199254740992) (hd0 : 0 ≤ d) (hd : ∀ c ∈ l, d ≤ c.f2 + ab (c.f1 - m)) (q : Int) (hq0 : 0 ≤ q) (hq : q ≤ wrap64 (mx (wrap64 (hi - m)) (wrap64 (m - lo)) + 1))
    (hj : ∀ k, 300 ≤ k → combine_Jitter.f k l = some q) : ∀ (n i k : Nat), i + n = l.length → n + 500 ≤ k → timesynclaw26_CombineBetween.l1 k l m lo hi d l l.length i = some true := by
  intro n
  induction n with
  | zero =>
    intro i k hi hk
    obtain ⟨k, rfl⟩ : ∃ k', k = k' + 1 := ⟨k - 1, by omega⟩
    rw [timesynclaw26_CombineBetween.l1, if_neg (by omega), hj k (by omega), Option.bind_some, if_pos (by omega), Option.bind_some, if_pos hq, awake_more k (by omega)]
    rfl
  | succ n ih =>
    intro i k hi hk
    obtain ⟨k, rfl⟩ : ∃ k', k = k' + 1 := ⟨k - 1, by omega⟩
    have hlt : i < l.length := by omega
    have hc : rd_T34 l (i : Int) ∈ l := by rw [rd_get l i hlt]; exact List.getElem_mem hlt
    have h1 := hv _ hc
    have h2 := hd _ hc
    unfold validC at h1
    have h3 := (away_ab (rd_T34 l (i : Int)).f1 m (by omega) (by omega)).2
    have h4 : ab ((rd_T34 l (i : Int)).f1 - m) ≤ 36028797018963968 := ab_le _ _ (by omega) (by omega)
    have h5 := ab_nonneg ((rd_T34 l (i : Int)).f1 - m)
    have e : wrap64 ((rd_T34 l (i : Int)).f2 + ab ((rd_T34 l (i : Int)).f1 - m)) = (rd_T34 l (i : Int)).f2 + ab ((rd_T34 l (i : Int)).f1 - m) := by unfold wrap64; omega
    rw [timesynclaw26_CombineBetween.l1, if_pos (by omega), if_pos (by omega), if_pos (by omega), h3, e, if_neg (by omega), if_neg (by omega), show ((i : Nat) : Int) + 1 = ((i + 1 : Nat) : Int) by omega, w_small ((i + 1 : Nat) : Int) (by omega) (by omega)]
    exact ih (i + 1) k (by omega) (by omega)
theorem first_loop (l : List S34) (m : Int) (hl : l.length ≤ 12) (r : Int → Int → Nat → Option Bool) (hr : ∀ k x5 x6, r x5 x6 k = (if m < wrap64 (x5 - (l.length : Int)) then timesynclaw26_CombineBetween.j2 k l m x5 x6 true else timesynclaw26_CombineBetween.j2 k l m x5 x6 (decide (m > x6)))) : ∀ (n i k : Nat) (x5 x6 : Int), i + n = l.length → n < k →
    timesynclaw26_CombineBetween.l0 k l m 0 x5 x6 l l.length i = r (lows (l.drop i) x5) (highs (l.drop i) x6) (k - n - 1) := by
  intro n
  induction n with
  | zero =>
    intro i k x5 x6 hi hk
    obtain ⟨k, rfl⟩ : ∃ k', k = k' + 1 := ⟨k - 1, by omega⟩
    rw [timesynclaw26_CombineBetween.l0, if_neg (by omega), if_pos rfl, List.drop_of_length_le (by omega), hr]
    rfl
  | succ n ih =>
    intro i k x5 x6 hi hk
    obtain ⟨k, rfl⟩ : ∃ k', k = k' + 1 := ⟨k - 1, by omega⟩
    have hlt : i < l.length := by omega
    rw [timesynclaw26_CombineBetween.l0, if_pos (by omega), if_pos (by omega), if_pos (by omega), show ((i : Nat) : Int) + 1 = ((i + 1 : Nat) : Int) by omega, w_small ((i + 1 : Nat) : Int) (by omega) (by omega), List.drop_eq_getElem_cons hlt, lows, highs, ← rd_get l i hlt, ih (i + 1) k _ _ (by omega) (by omega)]
    congr 1
    omega
theorem CombineBetween : timesynclaw26_CombineBetween.Pure := by
  intro l _
  refine ⟨2000, ?_⟩
  unfold timesynclaw26_CombineBetween.f
  split
  · rw [awake_more 2000 (by omega)]
    rfl
  rename_i hlen
  rw [com_mean_f l 2000 (by omega), Option.bind_some, check_cho l 2000 (by omega), Option.bind_some]
  by_cases hg : chkAll l = 0 ∧ 0 < l.length
  · obtain ⟨h, hp⟩ := hg
    have g : P.Good l := ⟨h, hp⟩
    have hl := g.len
    have hf := g.first
    have e0 : ((l.length : Int) == 0) = false := by simpa using (show ¬ (l.length : Int) = 0 by omega)
    rw [if_pos h, e0, timesynclaw26_CombineBetween.j0, if_neg (by simp), if_pos (by omega)]
    obtain ⟨lp1, lp2⟩ := lows_props l (rd_T34 l 0).f1
    obtain ⟨hp1, hp2⟩ := highs_props l (rd_T34 l 0).f1
    have lge := lows_ge l (-4503599627370496) (rd_T34 l 0).f1 (by unfold validC at hf; omega) (fun c hc => by have := g.valid c hc; unfold validC at this; omega)
    have hle := highs_le l 4503599627370496 (rd_T34 l 0).f1 (by unfold validC at hf; omega) (fun c hc => by have := g.valid c hc; unfold validC at this; omega)
    obtain ⟨hm, hm1, hm2⟩ := g.mean_eq (lows l (rd_T34 l 0).f1) (highs l (rd_T34 l 0).f1) (fun c hc => ⟨lp2 c hc, hp2 c hc⟩) lge hle
    generalize (rd_T34 l 0).f1 + qs (val l) (sw l) l = m at hm hm1 hm2
    rw [hm]
    have hloop := first_loop l m hl (fun x5 x6 k => (if m < wrap64 (x5 - (l.length : Int)) then timesynclaw26_CombineBetween.j2 k l m x5 x6 true else timesynclaw26_CombineBetween.j2 k l m x5 x6 (decide (m > x6)))) (fun _ _ _ => rfl) l.length 0 1999 (rd_T34 l 0).f1 (rd_T34 l 0).f1 (by omega) (by omega)
    rw [List.drop_zero] at hloop
    refine hloop.trans ?_
    generalize lows l (rd_T34 l 0).f1 = lo at *
    generalize highs l (rd_T34 l 0).f1 = hi at *
    have ew : wrap64 (lo - (l.length : Int)) = lo - l.length := by unfold wrap64; omega
    rw [ew, if_neg (by omega), decide_eq_false (by omega)]
    obtain ⟨k, hk⟩ : ∃ k, 1999 - l.length - 1 = k + 1 := ⟨1999 - l.length - 2, by omega⟩
    rw [hk, timesynclaw26_CombineBetween.j2, if_neg (by simp)]
    obtain ⟨hd, hd0⟩ := g.dist m hm (by omega) (by omega) k (by omega)
    obtain ⟨p1, p2, p3⟩ := dmin_props m (by omega) (by omega) l _ hd0 g.valid
    rw [hd, Option.bind_some]
    have hw1 : wrap64 (hi - m) = hi - m := by unfold wrap64; omega
    have hw2 : wrap64 (m - lo) = m - lo := by unfold wrap64; omega
    have hD : ∃ D : Int, D = mx (hi - m) (m - lo) := ⟨_, rfl⟩
    obtain ⟨D, hD⟩ := hD
    have hD1 : hi - m ≤ D ∧ m - lo ≤ D ∧ (D = hi - m ∨ D = m - lo) := by rw [hD]; unfold mx; split <;> omega
    obtain ⟨q, j1, j2, j3⟩ := g.jitter m hm D (by omega) (by omega) (by omega) (fun c hc => ab_le _ _ (by have := hp2 c hc; omega) (by have := lp2 c hc; omega)) 300 (by omega)
    have jall : ∀ k, 300 ≤ k → combine_Jitter.f k l = some q := by
      intro k hk
      have hx : ∀ d : Nat, combine_Jitter.f (300 + d) l = some q := by
        intro d
        induction d with
        | zero => exact j1
        | succ d ih => exact combine_Jitter.mono l (300 + d) _ ih
      obtain ⟨d, rfl⟩ : ∃ d, k = 300 + d := ⟨k - 300, by omega⟩
      exact hx d
    have hw3 : wrap64 (D + 1) = D + 1 := by unfold wrap64; omega
    exact second l m lo hi _ hl g.valid (by omega) (by omega) p1 p3 q j2 (by rw [hw1, hw2, ← hD, hw3]; omega) jall l.length 0 k (by omega) (by omega)
  · have hj : ∀ m x : Int, (m, x) = meanAll l → timesynclaw26_CombineBetween.j0 2000 l m x true = some true := by
      intro m x hmx
      have hm : m = 0 ∧ x ≠ 0 ∧ meanAll l = (0, x) := by
        unfold meanAll at hmx ⊢
        by_cases h : chkAll l = 0
        · have h0 : (l.length : Int) = 0 := by have : ¬ 0 < l.length := fun hp => hg ⟨h, hp⟩; omega
          rw [if_pos h, if_pos h0] at hmx ⊢
          simp only [Prod.mk.injEq] at hmx
          exact ⟨hmx.1, by omega, by rw [hmx.2]⟩
        · rw [if_neg h] at hmx ⊢
          simp only [Prod.mk.injEq] at hmx
          exact ⟨hmx.1, by omega, by rw [hmx.2]⟩
      obtain ⟨rfl, hx, hm⟩ := hm
      rw [timesynclaw26_CombineBetween.j0, if_pos rfl, if_neg hx, if_pos rfl]
      have hd : combine_Dist.f 1999 l = some 0 := by
        unfold combine_Dist.f
        rw [com_mean_f l 1999 (by omega), Option.bind_some, hm]
        simp only
        rw [if_neg hx]
      rw [hd, Option.bind_some, if_pos rfl, awake_more 1999 (by omega)]
      rfl
    by_cases h : chkAll l = 0
    · have h0 : (l.length : Int) = 0 := by have : ¬ 0 < l.length := fun hp => hg ⟨h, hp⟩; omega
      have e0 : ((l.length : Int) == 0) = true := by simpa using h0
      rw [if_pos h, e0]
      exact hj _ _ rfl
    · rw [if_neg h]
      exact hj _ _ rfl
end Go.Proofs.Ytgbajigcmadofaa.Pure
