/- The law CombineMoves over lists. -/
import Derived.Test.YtgbajigcmadofaaQCombineMoves
import Derived.Test.YtgbajigcmadofaaPureC26d
namespace Go.Proofs.Ytgbajigcmadofaa.Pure
open Go.RowKit Go.Proofs.Ytgbajigcmadofaa.P Go.Proofs.YtgbajigcmadofaaW.PrintWords Go.Proofs.YtgbajigcmadofaaW.PrintLast Go.Proofs.YtgbajigcmadofaaW.PrintMore

theorem eqm_l0 (l : List Int) (hl : l.length ≤ 140737488355328) : ∀ (d i k : Nat), l.length = i + d → d < k → slices_Equal_int_int.l0 k l l l.length i = some true := by
  intro d
  induction d with
  | zero =>
    intro i k hi hk
    obtain ⟨k, rfl⟩ : ∃ k', k = k' + 1 := ⟨k - 1, by omega⟩
    rw [slices_Equal_int_int.l0, if_neg (by omega)]
  | succ d ih =>
    intro i k hi hk
    obtain ⟨k, rfl⟩ : ∃ k', k = k' + 1 := ⟨k - 1, by omega⟩
    have e2 : wrap64 ((i : Int) + 1) = ((i + 1 : Nat) : Int) := by unfold wrap64; omega
    rw [slices_Equal_int_int.l0, if_pos (by omega), if_pos (by omega), if_pos (by omega), if_pos (by omega), if_pos rfl, e2]
    exact ih (i + 1) k (by omega) (by omega)
theorem eqm_self (l : List Int) (hl : l.length ≤ 140737488355328) (k : Nat) (hk : l.length < k) : slices_Equal_int_int.f k l l = some true := by
  unfold slices_Equal_int_int.f
  rw [if_pos rfl]
  exact eqm_l0 l hl l.length 0 k (by omega) hk
/-- A candidate that has moved. -/
def sh (d : Int) (c : S34) : S34 := ⟨c.f0, wrap64 (c.f1 + d), c.f2, c.f3, c.f4⟩
theorem wt_sh (d : Int) (c : S34) : wt (sh d c) = wt c := rfl
theorem wts_sh (d : Int) (l : List S34) : (l.map (sh d)).map wt = l.map wt := by rw [List.map_map]; rfl
theorem sw_sh (d : Int) (l : List S34) : sw (l.map (sh d)) = sw l := by rw [sw_sum, sw_sum, wts_sh]
theorem move_loop (l : List S34) (d : Int) (hl : l.length ≤ 12) : ∀ (n i k : Nat), i + n = l.length → n < k →
    timesynclaw26_CombineMoves.l0 k l d ((l.take i).map (sh d) ++ l.drop i) l.length i = timesynclaw26_CombineMoves.l0 (k - n) l d (l.map (sh d)) l.length l.length := by
  intro n
  induction n with
  | zero =>
    intro i k hi hk
    obtain rfl : i = l.length := by omega
    rw [List.take_of_length_le (Nat.le_refl _), List.drop_of_length_le (Nat.le_refl _), List.append_nil, Nat.sub_zero]
  | succ n ih =>
    intro i k hi hk
    obtain ⟨k, rfl⟩ : ∃ k', k = k' + 1 := ⟨k - 1, by omega⟩
    have hlt : i < l.length := by omega
    have hlen : ((l.take i).map (sh d) ++ l.drop i).length = l.length := by rw [List.length_append, List.length_map, List.length_take, List.length_drop]; omega
    have ht : ((l.take i).map (sh d)).length = i := by rw [List.length_map, List.length_take]; omega
    have hrd : rd_T34 ((l.take i).map (sh d) ++ l.drop i) (i : Int) = l[i] := by
      rw [rd_get _ i (by omega), List.getElem_append_right (by omega)]
      simp only [ht, Nat.sub_self, List.getElem_drop, Nat.add_zero]
    have hset : ((l.take i).map (sh d) ++ l.drop i).set i (sh d l[i]) = (l.take (i + 1)).map (sh d) ++ l.drop (i + 1) := by
      rw [List.set_append_right _ _ (by omega), ht, Nat.sub_self, List.drop_eq_getElem_cons hlt, List.set_cons_zero, List.take_succ_eq_append_getElem hlt, List.map_append, List.append_assoc]
      rfl
    have ih' := ih (i + 1) k (by omega) (by omega)
    rw [← hset] at ih'
    rw [timesynclaw26_CombineMoves.l0, if_pos (by omega), if_pos (by omega), if_pos (by omega), hrd, Int.toNat_natCast, show ((i : Nat) : Int) + 1 = ((i + 1 : Nat) : Int) by omega, w_small ((i + 1 : Nat) : Int) (by omega) (by omega)]
    refine ih'.trans ?_
    congr 1
    omega
theorem vacc_sh (v v' : S34 → Int) (all d : Int) (l : List S34) : ∀ a, (∀ c ∈ l, v' (sh d c) = v c) → vacc v' all (l.map (sh d)) a = vacc v all l a := by
  induction l with
  | nil => intro a _; rfl
  | cons c t ih =>
    intro a h
    rw [List.map_cons, vacc, vacc, wt_sh, h c (List.mem_cons_self ..)]
    exact ih _ (fun x hx => h x (List.mem_cons_of_mem _ hx))
theorem qs_sh (v v' : S34 → Int) (all d : Int) (l : List S34) : (∀ c ∈ l, v' (sh d c) = v c) → qs v' all (l.map (sh d)) = qs v all l := by
  induction l with
  | nil => intro _; rfl
  | cons c t ih =>
    intro h
    rw [List.map_cons, qs, qs, wt_sh, h c (List.mem_cons_self ..), ih (fun x hx => h x (List.mem_cons_of_mem _ hx))]
theorem dmin_sh (m m' d : Int) (l : List S34) : ∀ x, (∀ c ∈ l, (sh d c).f1 - m' = c.f1 - m) → dmin m' (l.map (sh d)) x = dmin m l x := by
  induction l with
  | nil => intro x _; rfl
  | cons c t ih =>
    intro x h
    have h1 := h c (List.mem_cons_self ..)
    have h2 : m' - (sh d c).f1 = m - c.f1 := by omega
    rw [List.map_cons, dmin, dmin, h1, h2]
    exact ih _ (fun y hy => h y (List.mem_cons_of_mem _ hy))
theorem CombineMoves : timesynclaw26_CombineMoves.Pure := by
  intro l d _ _
  refine ⟨2000, ?_⟩
  have hend : ∀ k, 400 < k → timesynclaw26_CombineMoves.j0 k l d true = some true := by
    intro k hk
    obtain ⟨k, rfl⟩ : ∃ k', k = k' + 1 := ⟨k - 1, by omega⟩
    rw [timesynclaw26_CombineMoves.j0, if_pos rfl, awake_more k (by omega)]
    rfl
  unfold timesynclaw26_CombineMoves.f
  split
  · exact hend _ (by omega)
  split
  · exact hend _ (by omega)
  split
  · exact hend _ (by omega)
  rename_i h40 hd1 hd2
  rw [check_cho l 2000 (by omega), Option.bind_some]
  by_cases hck : chkAll l = 0
  · obtain ⟨hl, hv⟩ := all_valid hck
    rw [hck, timesynclaw26_CombineMoves.j0, if_neg (by simp), api_Cand.f, if_pos (by omega), Option.bind_some]
    have hloop := move_loop l d hl l.length 0 1999 (by omega) (by omega)
    rw [List.take_zero, List.map_nil, List.nil_append, List.drop_zero] at hloop
    refine hloop.trans ?_
    obtain ⟨k, hk⟩ : ∃ k, 1999 - l.length = k + 2 := ⟨1999 - l.length - 2, by omega⟩
    rw [hk, timesynclaw26_CombineMoves.l0, if_neg (by omega), com_mean_f l (k + 1) (by omega), com_mean_f (l.map (sh d)) (k + 1) (by omega), check_cho (l.map (sh d)) (k + 1) (by omega)]
    simp only [Option.bind_some]
    have hfin : ∀ a b, timesynclaw26_CombineMoves.j2 (k + 1) l d (l.map (sh d)) a b true = some true := by
      intro a b
      rw [timesynclaw26_CombineMoves.j2, if_pos rfl, awake_more k (by omega)]
      rfl
    by_cases hK : chkAll (l.map (sh d)) = 0
    · rw [if_pos hK]
      by_cases hp : 0 < l.length
      · have g : P.Good l := ⟨hck, hp⟩
        have gK : P.Good (l.map (sh d)) := ⟨hK, by rw [List.length_map]; exact hp⟩
        have hf1 : ∀ c ∈ l, (sh d c).f1 = c.f1 + d := fun c hc => by
          have := hv c hc
          unfold validC at this
          show wrap64 (c.f1 + d) = c.f1 + d
          unfold wrap64; omega
        have hb : ∀ L : List S34, P.Good L → ∀ c ∈ L, -4503599627370496 ≤ c.f1 ∧ c.f1 ≤ 4503599627370496 := fun L gL c hc => by
          have := gL.valid c hc
          unfold validC at this
          omega
        obtain ⟨m1, m2, m3⟩ := g.mean_eq (-4503599627370496) 4503599627370496 (hb l g) (Int.le_refl _) (Int.le_refl _)
        obtain ⟨n1, n2, n3⟩ := gK.mean_eq (-4503599627370496) 4503599627370496 (hb _ gK) (Int.le_refl _) (Int.le_refl _)
        have h0l : rd_T34 l 0 ∈ l := by have := rd_get l 0 hp; rw [show ((0 : Nat) : Int) = 0 from rfl] at this; rw [this]; exact List.getElem_mem _
        have h0 : rd_T34 (l.map (sh d)) 0 = sh d (rd_T34 l 0) := by
          have a := rd_get l 0 hp
          have b := rd_get (l.map (sh d)) 0 (by rw [List.length_map]; exact hp)
          rw [show ((0 : Nat) : Int) = 0 from rfl] at a b
          rw [a, b, List.getElem_map]
        have hval : ∀ c ∈ l, val (l.map (sh d)) (sh d c) = val l c := fun c hc => by
          unfold val
          rw [h0, hf1 c hc, hf1 _ h0l]
          congr 1
          omega
        rw [sw_sh, qs_sh (val l) (val (l.map (sh d))) (sw l) d l hval, h0, hf1 _ h0l] at n1 n2 n3
        rw [List.length_map] at n2
        obtain ⟨m, hm⟩ : ∃ m, m = (rd_T34 l 0).f1 + qs (val l) (sw l) l := ⟨_, rfl⟩
        have hm' : (rd_T34 l 0).f1 + d + qs (val l) (sw l) l = m + d := by omega
        rw [← hm] at m1 m2 m3
        rw [hm'] at n1 n2 n3
        rw [m1, n1]
        simp only [if_true]
        have ew : wrap64 (m + d - m) = d := by unfold wrap64; omega
        rw [show ((0 : Int) != 0) = false from rfl, timesynclaw26_CombineMoves.j2, if_neg (by simp), ew, if_pos rfl]
        obtain ⟨q, j1, _, _⟩ := g.jitter m m1 36028797018963968 (by omega) (by omega) (by omega) (fun c hc => by have := hb l g c hc; exact ab_le _ _ (by omega) (by omega)) k (by omega)
        have hsub : ∀ c ∈ l, (sh d c).f1 - (m + d) = c.f1 - m := fun c hc => by rw [hf1 c hc]; omega
        have j2 : combine_Jitter.f k (l.map (sh d)) = some q := by
          rw [← j1]
          unfold combine_Jitter.f
          rw [com_mean_f l k (by omega), com_mean_f (l.map (sh d)) k (by omega), m1, n1, Option.bind_some, Option.bind_some]
          simp only [if_true]
          rw [if_pos (by rw [List.length_map]; omega), if_pos (by omega), wsum_ok l g.valid 0, wsum_ok _ gK.valid 0, wts_sh, Option.bind_some, Option.bind_some, g.wacc_eq]
          rw [vsum_ok (fun c => jitv (m + d) c.f1) _ (by unfold B.isI64; have := g.sw_small; have := g.sw_pos; omega) (l.map (sh d)) gK.valid (fun c => wrap_i64 _) 0, vsum_ok (fun c => jitv m c.f1) _ (by unfold B.isI64; have := g.sw_small; have := g.sw_pos; omega) l g.valid (fun c => wrap_i64 _) 0]
          rw [vacc_sh (fun c => jitv m c.f1) (fun c => jitv (m + d) c.f1) (sw l) d l 0 (fun c hc => by
            have e1 := hsub c hc
            have e2 : m + d - (sh d c).f1 = m - c.f1 := by omega
            show jitv (m + d) (sh d c).f1 = jitv m c.f1
            unfold jitv jitd
            rw [e1, e2])]
        rw [j1, j2, Option.bind_some, Option.bind_some, if_pos rfl]
        obtain ⟨d1, _⟩ := g.dist m m1 (by omega) (by omega) k (by omega)
        obtain ⟨d2, _⟩ := gK.dist (m + d) n1 (by omega) (by omega) k (by omega)
        rw [dmin_sh m (m + d) d l _ hsub, h0, hsub _ h0l] at d2
        have d2' : combine_Dist.f k (l.map (sh d)) = some (dmin m l ((rd_T34 l 0).f2 + ab ((rd_T34 l 0).f1 - m))) := d2
        rw [d1, d2', Option.bind_some, Option.bind_some, if_pos rfl, com_weights_f l hck k (by omega), com_weights_f _ hK k (by omega), wts_sh, Option.bind_some, Option.bind_some, eqm_self (l.map wt) (by rw [List.length_map]; omega) k (by rw [List.length_map]; omega), awake_more k (by omega)]
        rfl
      · have h0 : (l.length : Int) = 0 := by omega
        have hm : meanAll l = (0, 14) := by unfold meanAll; rw [if_pos hck, if_pos h0]
        rw [hm, if_neg (by decide)]
        exact hfin _ _
    · rw [if_neg hK]
      exact hfin _ _
  · have e1 : (chkAll l != 0) = true := by simpa using hck
    rw [e1]
    exact hend _ (by omega)
end Go.Proofs.Ytgbajigcmadofaa.Pure
