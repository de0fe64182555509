/- The weights and the mean of right candidates, both ways; the examples. -/
import Derived.Test.YtgbajigcmadofaaPureC26
import Derived.Test.YtgbajigcmadofaaPx9
namespace Go.Proofs.Ytgbajigcmadofaa.P
open Go.RowKit Go.Proofs.YtgbajigcmadofaaW.PrintWords Go.Proofs.YtgbajigcmadofaaW.PrintLast Go.Proofs.YtgbajigcmadofaaW.PrintMore

theorem awake_ok : timesynclaw26_awake.f 400 = some true := by kernel_rfl
theorem awake_more (k : Nat) (hk : 400 ≤ k) : timesynclaw26_awake.f k = some true := by
  have h : ∀ d : Nat, timesynclaw26_awake.f (400 + d) = some true := by
    intro d
    induction d with
    | zero => exact awake_ok
    | succ d ih => exact timesynclaw26_awake.mono (400 + d) _ ih
  obtain ⟨d, rfl⟩ : ∃ d, k = 400 + d := ⟨k - 400, by omega⟩
  exact h d
theorem take_map_next (l : List S34) (i : Nat) (h : i < l.length) : (l.take i).map wt ++ [wt (rd_T34 l (i : Int))] = (l.take (i + 1)).map wt := by
  rw [rd_get l i h, List.take_succ_eq_append_getElem h, List.map_append]
  rfl
theorem com_weights (l : List S34) (hn : l.length ≤ 12) (hv : ∀ c ∈ l, validC c) : ∀ (d i k : Nat), i + d = l.length → d < k → combine_Weights.l0 k ((l.take i).map wt) l l.length i = some (l.map wt) := by
  intro d
  induction d with
  | zero =>
    intro i k hi hk
    obtain ⟨k, rfl⟩ : ∃ k', k = k' + 1 := ⟨k - 1, by omega⟩
    rw [combine_Weights.l0, if_neg (by omega), List.take_of_length_le (by omega)]
  | succ d ih =>
    intro i k hi hk
    obtain ⟨k, rfl⟩ : ∃ k', k = k' + 1 := ⟨k - 1, by omega⟩
    have hlt : i < l.length := by omega
    have hvi : validC (rd_T34 l (i : Int)) := by rw [rd_get l i hlt]; exact hv _ (List.getElem_mem hlt)
    rw [combine_Weights.l0, if_pos (by omega), if_pos (by omega), if_pos (by omega), weight_ok _ hvi, Option.bind_some, if_pos (by rw [List.length_map, List.length_take]; omega), take_map_next l i hlt, show ((i : Nat) : Int) + 1 = ((i + 1 : Nat) : Int) by omega, w_small _ (by omega) (by omega)]
    exact ih (i + 1) k (by omega) (by omega)
theorem ref_weights (l : List S34) (hn : l.length ≤ 12) (hv : ∀ c ∈ l, validC c) : ∀ (d i k : Nat), i + d = l.length → d < k → timesyncref26_Weights.l0 k l ((l.take i).map wt) i = some (l.map wt) := by
  intro d
  induction d with
  | zero =>
    intro i k hi hk
    obtain ⟨k, rfl⟩ : ∃ k', k = k' + 1 := ⟨k - 1, by omega⟩
    rw [timesyncref26_Weights.l0, if_neg (by omega), List.take_of_length_le (by omega)]
  | succ d ih =>
    intro i k hi hk
    obtain ⟨k, rfl⟩ : ∃ k', k = k' + 1 := ⟨k - 1, by omega⟩
    have hlt : i < l.length := by omega
    have hvi : validC (rd_T34 l (i : Int)) := by rw [rd_get l i hlt]; exact hv _ (List.getElem_mem hlt)
    have hw := wt_div _ hvi
    have h0 : 0 ≤ (rd_T34 l (i : Int)).f2 / 1000 := Int.ediv_nonneg (by unfold validC at hvi; omega) (by omega)
    rw [timesyncref26_Weights.l0, if_pos (by omega), if_pos (by omega), hw.1, hw.2, if_neg (by omega), if_pos (by rw [List.length_map, List.length_take]; omega)]
    have := take_map_next l i hlt
    unfold wt at this
    unfold wt at ih ⊢
    rw [this, show ((i : Nat) : Int) + 1 = ((i + 1 : Nat) : Int) by omega, w_small _ (by omega) (by omega)]
    exact ih (i + 1) k (by omega) (by omega)
theorem com_weights_f (l : List S34) (h : chkAll l = 0) (k : Nat) (hk : 300 ≤ k) : combine_Weights.f k l = some (l.map wt) := by
  obtain ⟨hn, hv⟩ := all_valid h
  unfold combine_Weights.f
  rw [check_cho l k hk, Option.bind_some, if_pos h]
  exact com_weights l hn hv l.length 0 k (by omega) (by omega)
theorem ref_weights_f (l : List S34) (h : chkAll l = 0) (k : Nat) (hk : 300 ≤ k) : timesyncref26_Weights.f k l = some (l.map wt) := by
  obtain ⟨hn, hv⟩ := all_valid h
  unfold timesyncref26_Weights.f
  rw [check_ref l k hk, Option.bind_some, if_pos h]
  exact ref_weights l hn hv l.length 0 k (by omega) (by omega)
/-- The sum of numbers, as Go adds them. -/
def wacc : List Int → Int → Int
  | [], a => a
  | x :: t, a => wacc t (wrap64 (a + x))
theorem wsum_ok (l : List S34) (hv : ∀ c ∈ l, validC c) : ∀ a, wsum l a = some (wacc (l.map wt) a) := by
  induction l with
  | nil => intro a; rfl
  | cons c t ih =>
    intro a
    rw [wsum, weight_ok c (hv c (List.mem_cons_self ..)), Option.bind_some, List.map_cons, wacc]
    exact ih (fun x hx => hv x (List.mem_cons_of_mem _ hx)) _
theorem rd_int (l : List Int) (i : Nat) (h : i < l.length) : rd l (i : Int) = l[i] := by
  unfold rd
  simp [List.getD_eq_getElem?_getD, h]
theorem ref_sum (W : List Int) (hn : W.length ≤ 12) : ∀ (d i k : Nat) (a : Int), i + d = W.length → d < k → timesyncref26_sum.l0 k W a i = some (wacc (W.drop i) a) := by
  intro d
  induction d with
  | zero =>
    intro i k a hi hk
    obtain ⟨k, rfl⟩ : ∃ k', k = k' + 1 := ⟨k - 1, by omega⟩
    rw [timesyncref26_sum.l0, if_neg (by omega), List.drop_of_length_le (by omega)]
    rfl
  | succ d ih =>
    intro i k a hi hk
    obtain ⟨k, rfl⟩ : ∃ k', k = k' + 1 := ⟨k - 1, by omega⟩
    have hlt : i < W.length := by omega
    rw [timesyncref26_sum.l0, if_pos (by omega), if_pos (by omega), show ((i : Nat) : Int) + 1 = ((i + 1 : Nat) : Int) by omega, w_small ((i + 1 : Nat) : Int) (by omega) (by omega), List.drop_eq_getElem_cons hlt, wacc, rd_int W i hlt]
    exact ih (i + 1) k _ (by omega) (by omega)
/-- The weighted sum of values, as Go adds it. -/
def vacc (val : S34 → Int) (all : Int) : List S34 → Int → Int
  | [], a => a
  | c :: t, a => vacc val all t (wrap64 (a + (B.mulDiv (wt c) (val c) all).1))
theorem wrap_i64 (x : Int) : B.isI64 (wrap64 x) := by unfold B.isI64 wrap64; omega
theorem wacc_i64 (W : List Int) : ∀ a, B.isI64 a → B.isI64 (wacc W a) := by
  induction W with
  | nil => intro a h; exact h
  | cons x t ih => intro a _; exact ih _ (wrap_i64 _)
theorem vsum_ok (val : S34 → Int) (all : Int) (ha : B.isI64 all) (l : List S34) (hv : ∀ c ∈ l, validC c) (hval : ∀ c, B.isI64 (val c)) : ∀ a, vsum val all l a = some (vacc val all l a) := by
  induction l with
  | nil => intro a; rfl
  | cons c t ih =>
    intro a
    have hc := hv c (List.mem_cons_self ..)
    have hw := wt_range c hc
    rw [vsum, weight_ok c hc, Option.bind_some, fixed_MulDiv.f, if_pos ⟨by unfold B.isI64; omega, hval c, ha⟩, Option.bind_some, vacc]
    exact ih (fun x hx => hv x (List.mem_cons_of_mem _ hx)) _
theorem wrap_shift (o a x : Int) : wrap64 (wrap64 (o + a) + x) = wrap64 (o + wrap64 (a + x)) := by unfold wrap64; omega
theorem vacc_shift (val : S34 → Int) (all o : Int) (l : List S34) : ∀ a, vacc val all l (wrap64 (o + a)) = wrap64 (o + vacc val all l a) := by
  induction l with
  | nil => intro a; rfl
  | cons c t ih =>
    intro a
    rw [vacc, vacc, wrap_shift]
    exact ih _
theorem ref_mean (l : List S34) (hn : l.length ≤ 12) (hv : ∀ c ∈ l, validC c) (hp : 0 < l.length) : ∀ (d i k : Nat) (a : Int), i + d = l.length → d + 20 < k →
    timesyncref26_Mean.l0 k l (l.map wt) a i = some (vacc (fun c => wrap64 (c.f1 - (rd_T34 l 0).f1)) (wacc (l.map wt) 0) (l.drop i) a, 0) := by
  have hlm : (l.map wt).length = l.length := List.length_map ..
  intro d
  induction d with
  | zero =>
    intro i k a hi hk
    obtain ⟨k, rfl⟩ : ∃ k', k = k' + 1 := ⟨k - 1, by omega⟩
    rw [timesyncref26_Mean.l0, if_neg (by omega), List.drop_of_length_le (by omega)]
    rfl
  | succ d ih =>
    intro i k a hi hk
    obtain ⟨k, rfl⟩ : ∃ k', k = k' + 1 := ⟨k - 1, by omega⟩
    have hlt : i < l.length := by omega
    have hvi : validC (rd_T34 l (i : Int)) := by rw [rd_get l i hlt]; exact hv _ (List.getElem_mem hlt)
    have hw := wt_range _ hvi
    have hs := ref_sum (l.map wt) (by omega) (l.map wt).length 0 k 0 (by omega) (by omega)
    rw [List.drop_zero] at hs
    have hr : rd (l.map wt) (i : Int) = wt (rd_T34 l (i : Int)) := by rw [rd_int _ i (by omega), rd_get l i hlt, List.getElem_map]
    have e0 : timesyncref26_sum.f k (l.map wt) = some (wacc (l.map wt) 0) := hs
    rw [timesyncref26_Mean.l0, if_pos (by omega), if_pos (by omega), if_pos (by omega), if_pos (by omega), e0, Option.bind_some, hr, timesyncref01_MulDiv.f, if_pos ⟨by unfold B.isI64; omega, wrap_i64 _, wacc_i64 _ _ (by unfold B.isI64; omega)⟩, Option.bind_some, show ((i : Nat) : Int) + 1 = ((i + 1 : Nat) : Int) by omega, w_small ((i + 1 : Nat) : Int) (by omega) (by omega), List.drop_eq_getElem_cons hlt, vacc, ← rd_get l i hlt]
    exact ih (i + 1) k _ (by omega) (by omega)
/-- What both means answer. -/
def meanAll (l : List S34) : Int × Int :=
  if chkAll l = 0 then if (l.length : Int) = 0 then (0, 14)
    else (wrap64 ((rd_T34 l 0).f1 + vacc (fun c => wrap64 (c.f1 - (rd_T34 l 0).f1)) (wacc (l.map wt) 0) l 0), 0)
  else (0, chkAll l)
theorem com_mean_f (l : List S34) (k : Nat) (hk : 300 ≤ k) : combine_Mean.f k l = some (meanAll l) := by
  unfold combine_Mean.f meanAll
  rw [check_cho l k hk, Option.bind_some]
  by_cases h : chkAll l = 0
  · obtain ⟨hn, hv⟩ := all_valid h
    rw [if_pos h, if_pos h]
    by_cases h0 : (l.length : Int) = 0
    · rw [if_pos h0, if_pos h0]
    · rw [if_neg h0, if_neg h0, if_pos (by omega), wsum_ok l hv 0, Option.bind_some, vsum_ok _ _ (wacc_i64 _ _ (by unfold B.isI64; omega)) l hv (fun c => wrap_i64 _) 0, Option.bind_some]
  · rw [if_neg h, if_neg h]
theorem ref_mean_f (l : List S34) (k : Nat) (hk : 300 ≤ k) : timesyncref26_Mean.f k l = some (meanAll l) := by
  unfold timesyncref26_Mean.f meanAll
  rw [check_ref l k hk, Option.bind_some]
  by_cases h : chkAll l = 0
  · obtain ⟨hn, hv⟩ := all_valid h
    rw [if_pos h, if_pos h]
    by_cases h0 : (l.length : Int) = 0
    · rw [if_pos h0, if_pos h0]
    · rw [if_neg h0, if_neg h0, ref_weights_f l h k hk, Option.bind_some, if_pos (by omega)]
      have := ref_mean l hn hv (by omega) l.length 0 k (rd_T34 l 0).f1 (by omega) (by omega)
      rw [List.drop_zero] at this
      have hv0 : validC (rd_T34 l 0) := by
        have := rd_get l 0 (by omega)
        rw [show ((0 : Nat) : Int) = 0 from rfl] at this
        rw [this]; exact hv _ (List.getElem_mem _)
      have e0 : wrap64 ((rd_T34 l 0).f1 + 0) = (rd_T34 l 0).f1 := by unfold validC at hv0; unfold wrap64; omega
      have es := vacc_shift (fun c => wrap64 (c.f1 - (rd_T34 l 0).f1)) (wacc (l.map wt) 0) (rd_T34 l 0).f1 l 0
      rw [e0] at es
      rw [← es]
      exact this
  · rw [if_neg h, if_neg h]
end Go.Proofs.Ytgbajigcmadofaa.P
