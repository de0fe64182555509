/- The mean lies between; the jitter and the distance of right candidates. -/
import Derived.Test.YtgbajigcmadofaaPureC26c
import Derived.Test.YtgbajigcmadofaaPx7
namespace Go.Proofs.Ytgbajigcmadofaa.P
open Go.RowKit Go.Proofs.YtgbajigcmadofaaW.PrintWords Go.Proofs.YtgbajigcmadofaaW.PrintLast Go.Proofs.YtgbajigcmadofaaW.PrintMore

def ab (x : Int) : Int := if x < 0 then -x else x
theorem ab_nonneg (x : Int) : 0 ≤ ab x := by unfold ab; split <;> omega
theorem ab_le (x D : Int) (h1 : x ≤ D) (h2 : -D ≤ x) : ab x ≤ D := by unfold ab; split <;> omega
theorem away_ab (x m : Int) (h1 : -36028797018963968 ≤ x - m) (h2 : x - m ≤ 36028797018963968) : mx (wrap64 (x - m)) (wrap64 (m - x)) = ab (x - m) ∧ mx (wrap64 (m - x)) (wrap64 (x - m)) = ab (x - m) := by
  have e1 : wrap64 (x - m) = x - m := by unfold wrap64; omega
  have e2 : wrap64 (m - x) = m - x := by unfold wrap64; omega
  rw [e1, e2]
  unfold mx ab
  constructor
  · split <;> split <;> omega
  · split <;> split <;> omega
/-- A list of right candidates that is not empty. -/
structure Good (l : List S34) : Prop where
  chk : chkAll l = 0
  pos : 0 < l.length
namespace Good
variable {l : List S34} (g : Good l)
include g
theorem len : l.length ≤ 12 := (all_valid g.chk).1
theorem valid (c : S34) (h : c ∈ l) : validC c := (all_valid g.chk).2 c h
theorem wts (x : Int) (h : x ∈ l.map wt) : 1 ≤ x ∧ x ≤ 1073741824 := by
  obtain ⟨c, hc, rfl⟩ := List.mem_map.1 h
  exact wt_range c (g.valid c hc)
theorem wacc_eq : wacc (l.map wt) 0 = sw l := by
  have hl := g.len
  rw [wacc_sum _ 0 (by omega) g.wts (by rw [List.length_map]; omega), sw_sum]
  omega
theorem sw_pos : 0 < sw l := by
  have := (sum_ge _ g.wts).1
  have hp := g.pos
  rw [List.length_map] at this
  rw [sw_sum]; omega
theorem sw_small : sw l ≤ 12884901888 := by
  have := (sum_ge _ g.wts).2.1
  have hl := g.len
  rw [List.length_map] at this
  rw [sw_sum]; omega
theorem wt_le (c : S34) (h : c ∈ l) : wt c ≤ sw l := by
  rw [sw_sum]
  exact (sum_ge _ g.wts).2.2 _ (List.mem_map.2 ⟨c, h, rfl⟩)
theorem first : validC (rd_T34 l 0) := by
  have := rd_get l 0 g.pos
  rw [show ((0 : Nat) : Int) = 0 from rfl] at this
  rw [this]; exact g.valid _ (List.getElem_mem _)
theorem val_eq (c : S34) (h : c ∈ l) : wrap64 (c.f1 - (rd_T34 l 0).f1) = c.f1 - (rd_T34 l 0).f1 := by
  have h1 := g.valid c h
  have h2 := g.first
  unfold validC at h1 h2
  unfold wrap64; omega
end Good
def val (l : List S34) (c : S34) : Int := wrap64 (c.f1 - (rd_T34 l 0).f1)
theorem Good.mean_eq {l : List S34} (g : Good l) (lo hi : Int) (h : ∀ c ∈ l, lo ≤ c.f1 ∧ c.f1 ≤ hi) (hlo : -4503599627370496 ≤ lo) (hhi : hi ≤ 4503599627370496) :
    meanAll l = ((rd_T34 l 0).f1 + qs (val l) (sw l) l, 0) ∧ lo - l.length ≤ (rd_T34 l 0).f1 + qs (val l) (sw l) l ∧ (rd_T34 l 0).f1 + qs (val l) (sw l) l ≤ hi := by
  have hl := g.len
  have hp := g.pos
  have hs := g.sw_pos
  have hf := g.first
  have hv : ∀ c ∈ l, lo - (rd_T34 l 0).f1 ≤ val l c ∧ val l c ≤ hi - (rd_T34 l 0).f1 := fun c hc => by
    have h1 := g.val_eq c hc
    have h2 := h c hc
    unfold val
    omega
  have hup := qs_up (val l) (sw l) (hi - (rd_T34 l 0).f1) hs l (fun c hc => ⟨(wt_range c (g.valid c hc)).1, (hv c hc).2⟩)
  have hlow := qs_low (val l) (sw l) (lo - (rd_T34 l 0).f1) hs l (fun c hc => ⟨(wt_range c (g.valid c hc)).1, (hv c hc).1⟩)
  have q1 : qs (val l) (sw l) l ≤ hi - (rd_T34 l 0).f1 := by
    rw [Int.mul_comm (hi - (rd_T34 l 0).f1)] at hup
    exact Int.le_of_mul_le_mul_left hup hs
  have q2 : lo - (rd_T34 l 0).f1 - l.length ≤ qs (val l) (sw l) l := by
    have e : sw l * (lo - (rd_T34 l 0).f1 - l.length) ≤ sw l * qs (val l) (sw l) l := by
      refine Int.le_trans ?_ hlow
      rw [Int.mul_sub, Int.mul_sub (l.length : Int), Int.mul_comm (sw l) (lo - (rd_T34 l 0).f1), Int.mul_comm (sw l) (l.length : Int), Int.mul_one]
      omega
    exact Int.le_of_mul_le_mul_left e hs
  have hva : vacc (val l) (sw l) l 0 = 0 + qs (val l) (sw l) l := vacc_small (val l) (sw l) 9007199254740992 (by omega) (by omega) l 0 12 (by omega) (by omega) (by omega) (by omega)
    (fun c hc => by
      have h1 := g.val_eq c hc
      have h2 := g.valid c hc
      have h3 := wt_range c h2
      have h4 := g.wt_le c hc
      unfold validC at h2 hf
      unfold val
      exact ⟨by omega, by omega, by omega, by omega⟩)
  have hm : meanAll l = (wrap64 ((rd_T34 l 0).f1 + vacc (val l) (sw l) l 0), 0) := by
    unfold meanAll
    rw [if_pos g.chk, if_neg (by omega), g.wacc_eq]
    rfl
  unfold validC at hf
  rw [hm, hva, Int.zero_add]
  have e : wrap64 ((rd_T34 l 0).f1 + qs (val l) (sw l) l) = (rd_T34 l 0).f1 + qs (val l) (sw l) l := by unfold wrap64; omega
  rw [e]
  exact ⟨rfl, by omega, by omega⟩
theorem sq_le (a b : Int) (h0 : 0 ≤ a) (h : a ≤ b) : a * a ≤ b * b := Int.le_trans (Int.mul_le_mul_of_nonneg_left h h0) (Int.mul_le_mul_of_nonneg_right h (by omega))
theorem root_le (q E : Int) (h0 : 0 ≤ E) (h : q * q ≤ E * E) : q ≤ E := by
  by_cases hq : q ≤ E
  · exact hq
  · have h1 : (E + 1) * (E + 1) ≤ q * q := sq_le (E + 1) q (by omega) (by omega)
    have h2 : (E + 1) * (E + 1) = E * E + E + E + 1 := by rw [Int.add_mul, Int.mul_add, Int.one_mul, Int.mul_one]; omega
    omega
/-- The jitter is no more than the greatest distance from the mean. -/
theorem Good.jitter {l : List S34} (g : Good l) (m : Int) (hm : meanAll l = (m, 0)) (D : Int) (hD : 0 ≤ D) (hm1 : -9007199254740992 ≤ m) (hm2 : m ≤ 9007199254740992) (h : ∀ c ∈ l, ab (c.f1 - m) ≤ D) (k : Nat) (hk : 300 ≤ k) :
    ∃ q, combine_Jitter.f k l = some q ∧ 0 ≤ q ∧ q ≤ D := by
  have hs := g.sw_pos
  have hl := g.len
  have hE : ∃ E : Int, E = min 1073741824 D := ⟨_, rfl⟩
  obtain ⟨E, hE⟩ := hE
  have hE0 : 0 ≤ E := by omega
  have hE1 : E ≤ 1073741824 := by omega
  have hE2 : E ≤ D := by omega
  have hEE : E * E ≤ 1073741824 * 1073741824 := sq_le E 1073741824 hE0 hE1
  have hEE0 : 0 ≤ E * E := Int.mul_nonneg hE0 hE0
  have hjv : ∀ c ∈ l, 0 ≤ jitv m c.f1 ∧ jitv m c.f1 ≤ E * E := fun c hc => by
    have h1 := g.valid c hc
    have h2 := h c hc
    unfold validC at h1
    have h3 := (away_ab c.f1 m (by omega) (by omega)).1
    have h4 : jitd m c.f1 = min 1073741824 (ab (c.f1 - m)) := by unfold jitd; rw [h3]
    have h5 := ab_nonneg (c.f1 - m)
    unfold jitv
    have h6 : 0 ≤ jitd m c.f1 := by omega
    have h7 : jitd m c.f1 ≤ E := by omega
    have h8 := sq_le _ _ h6 h7
    have h9 : 0 ≤ jitd m c.f1 * jitd m c.f1 := Int.mul_nonneg h6 h6
    generalize jitd m c.f1 * jitd m c.f1 = z at h8 h9 ⊢
    have e : wrap64 z = z := by unfold wrap64; omega
    rw [e]
    exact ⟨h9, h8⟩
  have hv := vacc_pos (fun c => jitv m c.f1) (sw l) (E * E) hs hEE0 (by omega) l 0 (Int.le_refl _) (by rw [Int.mul_zero, Int.sub_self, Int.mul_zero]; exact Int.le_refl _)
    (fun c hc => ⟨(wt_range c (g.valid c hc)).1, g.wt_le c hc, (hjv c hc).1, (hjv c hc).2⟩)
  have hS : vacc (fun c => jitv m c.f1) (sw l) l 0 ≤ E * E := by
    rw [Int.mul_comm (E * E)] at hv
    exact Int.le_of_mul_le_mul_left hv.2 hs
  obtain ⟨q, h1, h2, h3⟩ := sqrt_ok (vacc (fun c => jitv m c.f1) (sw l) l 0) hv.1 (by omega) k (by omega)
  refine ⟨q, ?_, h2, Int.le_trans (root_le q E hE0 (Int.le_trans h3 hS)) hE2⟩
  unfold combine_Jitter.f
  rw [com_mean_f l k hk, Option.bind_some, hm]
  simp only [if_true]
  rw [if_pos (by omega), wsum_ok l g.valid 0, Option.bind_some, g.wacc_eq, vsum_ok (fun c => jitv m c.f1) _ (by unfold B.isI64; have := g.sw_small; omega) l g.valid (fun c => wrap_i64 _) 0, Option.bind_some, h1]
  rfl
/-- The least distance. -/
def dmin (m : Int) : List S34 → Int → Int
  | [], x => x
  | c :: t, x => dmin m t (mn x (wrap64 (c.f2 + mx (wrap64 (c.f1 - m)) (wrap64 (m - c.f1)))))
theorem dist_loop (m : Int) (l : List S34) (hl : l.length ≤ 12) : ∀ (d i k : Nat) (x : Int), i + d = l.length → d < k → combine_Dist.l0 k m x l l.length i = some (dmin m (l.drop i) x) := by
  intro d
  induction d with
  | zero =>
    intro i k x hi hk
    obtain ⟨k, rfl⟩ : ∃ k', k = k' + 1 := ⟨k - 1, by omega⟩
    rw [combine_Dist.l0, if_neg (by omega), List.drop_of_length_le (by omega)]
    rfl
  | succ d ih =>
    intro i k x hi hk
    obtain ⟨k, rfl⟩ : ∃ k', k = k' + 1 := ⟨k - 1, by omega⟩
    have hlt : i < l.length := by omega
    rw [combine_Dist.l0, if_pos (by omega), if_pos (by omega), if_pos (by omega), combine_away.f, Option.bind_some, show ((i : Nat) : Int) + 1 = ((i + 1 : Nat) : Int) by omega, w_small ((i + 1 : Nat) : Int) (by omega) (by omega), List.drop_eq_getElem_cons hlt, dmin, ← rd_get l i hlt]
    exact ih (i + 1) k _ (by omega) (by omega)
theorem dmin_props (m : Int) (hm1 : -9007199254740992 ≤ m) (hm2 : m ≤ 9007199254740992) (l : List S34) : ∀ x : Int, 0 ≤ x → (∀ c ∈ l, validC c) → 0 ≤ dmin m l x ∧ dmin m l x ≤ x ∧ ∀ c ∈ l, dmin m l x ≤ c.f2 + ab (c.f1 - m) := by
  induction l with
  | nil => intro x h0 _; exact ⟨h0, Int.le_refl _, fun c hc => by cases hc⟩
  | cons c t ih =>
    intro x h0 hv
    have h1 := hv c (List.mem_cons_self ..)
    unfold validC at h1
    have h2 := (away_ab c.f1 m (by omega) (by omega)).1
    have h3 := ab_nonneg (c.f1 - m)
    have h4 : ab (c.f1 - m) ≤ 36028797018963968 := ab_le _ _ (by omega) (by omega)
    have e : wrap64 (c.f2 + ab (c.f1 - m)) = c.f2 + ab (c.f1 - m) := by unfold wrap64; omega
    rw [dmin, h2, e]
    have hmn : 0 ≤ mn x (c.f2 + ab (c.f1 - m)) ∧ mn x (c.f2 + ab (c.f1 - m)) ≤ x ∧ mn x (c.f2 + ab (c.f1 - m)) ≤ c.f2 + ab (c.f1 - m) := by unfold mn; split <;> omega
    obtain ⟨a1, a2, a3⟩ := ih _ hmn.1 (fun y hy => hv y (List.mem_cons_of_mem _ hy))
    refine ⟨a1, by omega, fun y hy => ?_⟩
    rcases List.mem_cons.1 hy with rfl | hy
    · omega
    · exact a3 y hy
theorem Good.dist {l : List S34} (g : Good l) (m : Int) (hm : meanAll l = (m, 0)) (hm1 : -9007199254740992 ≤ m) (hm2 : m ≤ 9007199254740992) (k : Nat) (hk : 300 ≤ k) :
    combine_Dist.f k l = some (dmin m l ((rd_T34 l 0).f2 + ab ((rd_T34 l 0).f1 - m))) ∧ 0 ≤ (rd_T34 l 0).f2 + ab ((rd_T34 l 0).f1 - m) := by
  have hf := g.first
  have hp := g.pos
  unfold validC at hf
  have h2 := (away_ab (rd_T34 l 0).f1 m (by omega) (by omega)).1
  have h3 := ab_nonneg ((rd_T34 l 0).f1 - m)
  have h4 : ab ((rd_T34 l 0).f1 - m) ≤ 36028797018963968 := ab_le _ _ (by omega) (by omega)
  have e : wrap64 ((rd_T34 l 0).f2 + ab ((rd_T34 l 0).f1 - m)) = (rd_T34 l 0).f2 + ab ((rd_T34 l 0).f1 - m) := by unfold wrap64; omega
  refine ⟨?_, by omega⟩
  unfold combine_Dist.f
  rw [com_mean_f l k hk, Option.bind_some, hm]
  simp only [if_true]
  rw [if_pos (by omega), combine_away.f, Option.bind_some, h2, e]
  have := dist_loop m l g.len l.length 0 k ((rd_T34 l 0).f2 + ab ((rd_T34 l 0).f1 - m)) (by omega) (by have := g.len; omega)
  rw [List.drop_zero] at this
  exact this
end Go.Proofs.Ytgbajigcmadofaa.P
