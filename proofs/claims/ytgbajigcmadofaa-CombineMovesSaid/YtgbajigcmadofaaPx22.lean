-- Written by xp.py, a program of this session, over the print of the loaded program; Lean checks it.
import Derived.Test.YtgbajigcmadofaaPx0
import Derived.Test.YtgbajigcmadofaaPx2
import Derived.Test.YtgbajigcmadofaaPx3
import Derived.Test.YtgbajigcmadofaaPx5
import Derived.Test.YtgbajigcmadofaaPx7
import Derived.Test.YtgbajigcmadofaaPx9
import Derived.Test.YtgbajigcmadofaaXCln26
import Derived.Test.YtgbajigcmadofaaXJit26
import Derived.Test.YtgbajigcmadofaaXMean26
namespace Go.Proofs.Ytgbajigcmadofaa.P
open Go.RowKit Go.Proofs.YtgbajigcmadofaaW.PrintWords Go.Proofs.YtgbajigcmadofaaW.PrintLast Go.Proofs.YtgbajigcmadofaaW.PrintMore
attribute [local go_sem] max2_int min2_int max_two min_two max_three min_three max_four min_four Go.Proofs.Ytgbajigcmadofaa.Op.isSome_setCell   -- for this text's walks alone
set_option linter.unusedVariables false
set_option linter.unusedSimpArgs false

/-! ### timesynclaw26_CombineMoves: function 7 -/
mutual
def timesynclaw26_CombineMoves.j0 : Nat → List (S34) → Int → Bool → Option (Bool)
  | 0, _, _, _ => none
  | k + 1, x0, x1, x26 => if x26 = true then ((timesynclaw26_awake.f k).bind fun t230 => (if t230 = true then (some true) else (none))) else ((api_Cand.f x0).bind fun t231 => (timesynclaw26_CombineMoves.l0 k x0 x1 t231 (t231.length : Int) 0))
def timesynclaw26_CombineMoves.l0 : Nat → List (S34) → Int → List (S34) → Int → Int → Option (Bool)
  | 0, _, _, _, _, _ => none
  | k + 1, x0, x1, x5, x31, x32 => if x32 < x31 then (if 0 ≤ x32 then (if x32 < (x5.length : Int) then (timesynclaw26_CombineMoves.l0 k x0 x1 (x5.set (x32 : Int).toNat (⟨(rd_T34 x5 x32).f0, wrap64 (((rd_T34 x5 x32).f1) + x1), (rd_T34 x5 x32).f2, (rd_T34 x5 x32).f3, (rd_T34 x5 x32).f4⟩ : S34)) x31 (wrap64 (x32 + 1))) else (none)) else (none)) else ((combine_Mean.f k x0).bind fun bt236 => ((combine_Mean.f k x5).bind fun bt238 => ((choose_Check.f k x5).bind fun t240 => (if t240 = 0 then (if bt236.2 = 0 then (timesynclaw26_CombineMoves.j2 k x0 x1 x5 bt236.1 bt238.1 (bt238.2 != 0)) else (timesynclaw26_CombineMoves.j2 k x0 x1 x5 bt236.1 bt238.1 true)) else (timesynclaw26_CombineMoves.j2 k x0 x1 x5 bt236.1 bt238.1 true)))))
def timesynclaw26_CombineMoves.j2 : Nat → List (S34) → Int → List (S34) → Int → Int → Bool → Option (Bool)
  | 0, _, _, _, _, _, _ => none
  | k + 1, x0, x1, x5, x7, x9, x65 => if x65 = true then ((timesynclaw26_awake.f k).bind fun t241 => (if t241 = true then (some true) else (none))) else (if (wrap64 (x9 - x7)) = x1 then ((combine_Jitter.f k x5).bind fun t242 => ((combine_Jitter.f k x0).bind fun t243 => (if t242 = t243 then ((combine_Dist.f k x5).bind fun t244 => ((combine_Dist.f k x0).bind fun t245 => (if t244 = t245 then ((combine_Weights.f k x5).bind fun t246 => ((combine_Weights.f k x0).bind fun t249 => ((slices_Equal_int_int.f k t246 t249).bind fun t252 => (if t252 = true then ((timesynclaw26_awake.f k).bind fun t253 => (if t253 = true then (some true) else (none))) else (none))))) else (none)))) else (none)))) else (none))
end
def timesynclaw26_CombineMoves.f (k : Nat) (l0 : List (S34)) (a1 : Int) : Option (Bool) := if (l0.length : Int) > 40 then (timesynclaw26_CombineMoves.j0 k l0 a1 true) else (if a1 < (-1125899906842624) then (timesynclaw26_CombineMoves.j0 k l0 a1 true) else (if a1 > 1125899906842624 then (timesynclaw26_CombineMoves.j0 k l0 a1 true) else ((choose_Check.f k l0).bind fun t229 => (timesynclaw26_CombineMoves.j0 k l0 a1 (t229 != 0)))))
theorem timesynclaw26_CombineMoves.mono_l : ∀ k, (∀ y0 y1 y2, LeO (timesynclaw26_CombineMoves.j0 k y0 y1 y2) (timesynclaw26_CombineMoves.j0 (k + 1) y0 y1 y2)) ∧ (∀ y0 y1 y2 y3 y4, LeO (timesynclaw26_CombineMoves.l0 k y0 y1 y2 y3 y4) (timesynclaw26_CombineMoves.l0 (k + 1) y0 y1 y2 y3 y4)) ∧ (∀ y0 y1 y2 y3 y4 y5, LeO (timesynclaw26_CombineMoves.j2 k y0 y1 y2 y3 y4 y5) (timesynclaw26_CombineMoves.j2 (k + 1) y0 y1 y2 y3 y4 y5))
  | 0 => ⟨fun _ _ _ r h => by simp [timesynclaw26_CombineMoves.j0] at h, fun _ _ _ _ _ r h => by simp [timesynclaw26_CombineMoves.l0] at h, fun _ _ _ _ _ _ r h => by simp [timesynclaw26_CombineMoves.j2] at h⟩
  | k + 1 => by
    obtain ⟨ih0, ih1, ih2⟩ := timesynclaw26_CombineMoves.mono_l k
    refine ⟨?_, ?_, ?_⟩
    · intro y0 y1 y2
      unfold timesynclaw26_CombineMoves.j0
      repeat' first
      | (with_reducible exact ih0 _ _ _)
      | (with_reducible exact ih1 _ _ _ _ _)
      | (with_reducible exact ih2 _ _ _ _ _ _)
      | (with_reducible exact choose_Check.mono _ _)
      | (with_reducible exact combine_Dist.mono _ _)
      | (with_reducible exact combine_Jitter.mono _ _)
      | (with_reducible exact combine_Mean.mono _ _)
      | (with_reducible exact combine_Weights.mono _ _)
      | (with_reducible exact slices_Equal_int_int.mono _ _ _)
      | (with_reducible exact timesynclaw26_awake.mono _)
      | (with_reducible exact LeO.refl _)
      | (with_reducible exact LeO.none _)
      | (with_reducible refine LeO.ite ?_ ?_)
      | (with_reducible refine LeO.bind ?_ (fun _ => ?_))
      | exact ih0 _ _ _
      | exact ih1 _ _ _ _ _
      | exact ih2 _ _ _ _ _ _
      | exact choose_Check.mono _ _
      | exact combine_Dist.mono _ _
      | exact combine_Jitter.mono _ _
      | exact combine_Mean.mono _ _
      | exact combine_Weights.mono _ _
      | exact slices_Equal_int_int.mono _ _ _
      | exact timesynclaw26_awake.mono _
      | exact LeO.none _
      | refine LeO.ite ?_ ?_
      | refine LeO.bind ?_ (fun _ => ?_)
    · intro y0 y1 y2 y3 y4
      unfold timesynclaw26_CombineMoves.l0
      repeat' first
      | (with_reducible exact ih0 _ _ _)
      | (with_reducible exact ih1 _ _ _ _ _)
      | (with_reducible exact ih2 _ _ _ _ _ _)
      | (with_reducible exact choose_Check.mono _ _)
      | (with_reducible exact combine_Dist.mono _ _)
      | (with_reducible exact combine_Jitter.mono _ _)
      | (with_reducible exact combine_Mean.mono _ _)
      | (with_reducible exact combine_Weights.mono _ _)
      | (with_reducible exact slices_Equal_int_int.mono _ _ _)
      | (with_reducible exact timesynclaw26_awake.mono _)
      | (with_reducible exact LeO.refl _)
      | (with_reducible exact LeO.none _)
      | (with_reducible refine LeO.ite ?_ ?_)
      | (with_reducible refine LeO.bind ?_ (fun _ => ?_))
      | exact ih0 _ _ _
      | exact ih1 _ _ _ _ _
      | exact ih2 _ _ _ _ _ _
      | exact choose_Check.mono _ _
      | exact combine_Dist.mono _ _
      | exact combine_Jitter.mono _ _
      | exact combine_Mean.mono _ _
      | exact combine_Weights.mono _ _
      | exact slices_Equal_int_int.mono _ _ _
      | exact timesynclaw26_awake.mono _
      | exact LeO.none _
      | refine LeO.ite ?_ ?_
      | refine LeO.bind ?_ (fun _ => ?_)
    · intro y0 y1 y2 y3 y4 y5
      unfold timesynclaw26_CombineMoves.j2
      repeat' first
      | (with_reducible exact ih0 _ _ _)
      | (with_reducible exact ih1 _ _ _ _ _)
      | (with_reducible exact ih2 _ _ _ _ _ _)
      | (with_reducible exact choose_Check.mono _ _)
      | (with_reducible exact combine_Dist.mono _ _)
      | (with_reducible exact combine_Jitter.mono _ _)
      | (with_reducible exact combine_Mean.mono _ _)
      | (with_reducible exact combine_Weights.mono _ _)
      | (with_reducible exact slices_Equal_int_int.mono _ _ _)
      | (with_reducible exact timesynclaw26_awake.mono _)
      | (with_reducible exact LeO.refl _)
      | (with_reducible exact LeO.none _)
      | (with_reducible refine LeO.ite ?_ ?_)
      | (with_reducible refine LeO.bind ?_ (fun _ => ?_))
      | exact ih0 _ _ _
      | exact ih1 _ _ _ _ _
      | exact ih2 _ _ _ _ _ _
      | exact choose_Check.mono _ _
      | exact combine_Dist.mono _ _
      | exact combine_Jitter.mono _ _
      | exact combine_Mean.mono _ _
      | exact combine_Weights.mono _ _
      | exact slices_Equal_int_int.mono _ _ _
      | exact timesynclaw26_awake.mono _
      | exact LeO.none _
      | refine LeO.ite ?_ ?_
      | refine LeO.bind ?_ (fun _ => ?_)
theorem timesynclaw26_CombineMoves.mono : ∀ a0 a1 k, LeO (timesynclaw26_CombineMoves.f k a0 a1) (timesynclaw26_CombineMoves.f (k + 1) a0 a1) := by
  intro a0 a1 k
  obtain ⟨ih0, ih1, ih2⟩ := timesynclaw26_CombineMoves.mono_l k
  unfold timesynclaw26_CombineMoves.f
  repeat' first
      | (with_reducible exact ih0 _ _ _)
      | (with_reducible exact ih1 _ _ _ _ _)
      | (with_reducible exact ih2 _ _ _ _ _ _)
      | (with_reducible exact choose_Check.mono _ _)
      | (with_reducible exact combine_Dist.mono _ _)
      | (with_reducible exact combine_Jitter.mono _ _)
      | (with_reducible exact combine_Mean.mono _ _)
      | (with_reducible exact combine_Weights.mono _ _)
      | (with_reducible exact slices_Equal_int_int.mono _ _ _)
      | (with_reducible exact timesynclaw26_awake.mono _)
      | (with_reducible exact LeO.refl _)
      | (with_reducible exact LeO.none _)
      | (with_reducible refine LeO.ite ?_ ?_)
      | (with_reducible refine LeO.bind ?_ (fun _ => ?_))
      | exact ih0 _ _ _
      | exact ih1 _ _ _ _ _
      | exact ih2 _ _ _ _ _ _
      | exact choose_Check.mono _ _
      | exact combine_Dist.mono _ _
      | exact combine_Jitter.mono _ _
      | exact combine_Mean.mono _ _
      | exact combine_Weights.mono _ _
      | exact slices_Equal_int_int.mono _ _ _
      | exact timesynclaw26_awake.mono _
      | exact LeO.none _
      | refine LeO.ite ?_ ?_
      | refine LeO.bind ?_ (fun _ => ?_)
set_option maxHeartbeats 8000000 in
set_option maxRecDepth 100000 in
theorem timesynclaw26_CombineMoves.calls (k : Nat) (A0 : Option Addr) (c0 : Nat) (l0 : List (S34)) (a1 : Int) (r : Bool) (w : World) (hr0 : Kd.C k34 w A0 l0.length l0) (hc0 : l0.length ≤ c0) (h : timesynclaw26_CombineMoves.f k l0 a1 = some r) :
    Calls Try.prog 7 #[.slice A0 l0.length c0, .int .i64 a1] w fun e w' => e = .returned (.bool r) ∧ Below w.heap.size w w' := by
  have HR0 := Aside0.mk hr0
  have HC0 := Aside0.mk hc0
  clear hr0 hc0
  have HB := Aside0.mk (Below.refl w.heap.size w)
  have H : (if (l0.length : Int) > 40 then (timesynclaw26_CombineMoves.j0 k l0 a1 true) else (if a1 < (-1125899906842624) then (timesynclaw26_CombineMoves.j0 k l0 a1 true) else (if a1 > 1125899906842624 then (timesynclaw26_CombineMoves.j0 k l0 a1 true) else ((choose_Check.f k l0).bind fun t229 => (timesynclaw26_CombineMoves.j0 k l0 a1 (t229 != 0)))))) = some r := h
  clear h
  have HC3 := Aside0.mk H
  clear H
  go_enter Try.func7, Try.ntmps7
  go_upto_region 1 with (fail)
  go_cut [26] (fun v26 wc => ∃ (kq : Nat) (x26_2 : Bool), v26 = .bool x26_2 ∧ Aside0 (timesynclaw26_CombineMoves.j0 kq l0 a1 x26_2 = some r) ∧ Aside0 (kq ≤ k) ∧ Aside0 (Below w.heap.size w wc))
  case first =>
    have H := HC3.out
    clear HC3
    by_cases c4 : (l0.length : Int) > 40
    · rw [if_pos c4] at H
      have c4b0 : decide (40 < (l0.length : Int)) = true := decide_eq_true c4
      have c4b1 : decide (40 < l0.length) = true := decide_eq_true (by omega)
      clear c4
      (first | rw [c4b0] | (simp only [i64_w, i32_w]; rw [c4b0]) | skip)
      have H' := Aside0.mk H
      clear H
      go_wp2
      go_meet
      case rel => exact ⟨_, (true), (by first | rfl | (simp; done) | (simp [*]; done)), H', ⟨by first | omega | exact Nat.le_refl _⟩, ⟨by repeat (first | (with_reducible first | exact HB.out | apply below_alloc | apply pw_below_drewN | apply below_drew1) | exact HB.out)⟩⟩
    · rw [if_neg c4] at H
      have c4b0 : decide (40 < (l0.length : Int)) = false := decide_eq_false c4
      have c4b1 : decide (40 < l0.length) = false := decide_eq_false (by omega)
      clear c4
      (first | rw [c4b0] | (simp only [i64_w, i32_w]; rw [c4b0]) | skip)
      by_cases c5 : a1 < (-1125899906842624)
      · rw [if_pos c5] at H
        have c5b0 : decide (a1 < (-1125899906842624)) = true := decide_eq_true c5
        clear c5
        have H' := Aside0.mk H
        clear H
        go_wp2
        go_meet
        case rel => exact ⟨_, (true), (by first | rfl | (simp; done) | (simp [*]; done)), H', ⟨by first | omega | exact Nat.le_refl _⟩, ⟨by repeat (first | (with_reducible first | exact HB.out | apply below_alloc | apply pw_below_drewN | apply below_drew1) | exact HB.out)⟩⟩
      · rw [if_neg c5] at H
        have c5b0 : decide (a1 < (-1125899906842624)) = false := decide_eq_false c5
        clear c5
        by_cases c6 : a1 > 1125899906842624
        · rw [if_pos c6] at H
          have c6b0 : decide (1125899906842624 < a1) = true := decide_eq_true c6
          clear c6
          have H' := Aside0.mk H
          clear H
          go_wp2
          go_meet
          case rel => exact ⟨_, (true), (by first | rfl | (simp; done) | (simp [*]; done)), H', ⟨by first | omega | exact Nat.le_refl _⟩, ⟨by repeat (first | (with_reducible first | exact HB.out | apply below_alloc | apply pw_below_drewN | apply below_drew1) | exact HB.out)⟩⟩
        · rw [if_neg c6] at H
          have c6b0 : decide (1125899906842624 < a1) = false := decide_eq_false c6
          clear c6
          replace H := Option.bind_eq_some_iff.mp H
          obtain ⟨t229, A70, H⟩ := H
          replace H : (timesynclaw26_CombineMoves.j0 k l0 a1 (t229 != 0)) = some r := H
          have A7 := Aside0.mk A70
          clear A70
          have H' := Aside0.mk H
          clear H
          go_wp2_with (first | (go_at_call 14; (with_reducible refine (choose_Check.calls k _ _ l0 t229 _ ?side1 ?side2 A7.out).mono ?_); (case side1 => repeat (first | exact (Kd.C_below HR0.out HB.out) | (with_reducible refine Kd.C_alloc ?_ _) | (with_reducible refine Kd.C_drewN ?_ _) | (with_reducible refine Kd.C_drew ?_))); (case side2 => exact HC0.out); rintro e w8 ⟨rfl, hb⟩; have n0_ := Aside0.mk (below_step (by repeat (first | (with_reducible first | exact HB.out | apply below_alloc | apply pw_below_drewN | apply below_drew1) | exact HB.out)) hb); clear HB; have HB := n0_; clear n0_; (try clear hb); (try clear hb2); (try clear hk); (try clear hi)))
          go_meet
          case rel => exact ⟨_, ((t229 != 0)), (by first | rfl | (simp; done) | (simp [*]; done)), H', ⟨by first | omega | exact Nat.le_refl _⟩, ⟨by repeat (first | (with_reducible first | exact HB.out | apply below_alloc | apply pw_below_drewN | apply below_drew1) | exact HB.out)⟩⟩
  case rest =>
    clear HC3
    try clear p2
    try clear c4
    try clear c4b0
    try clear c4b1
    try clear c5
    try clear c5b0
    try clear c6
    try clear c6b0
    try clear c7
    obtain ⟨kq, x26_2, rfl, HA, HJ2, HB⟩ := hcut
    cases kq with
    | zero => exact absurd HA.out (by simp [timesynclaw26_CombineMoves.j0])
    | succ kj2 =>
      have H := HA.out
      clear HA
      simp only [timesynclaw26_CombineMoves.j0] at H
      by_cases c9 : x26_2 = true
      · subst c9
        have H1 : ((timesynclaw26_awake.f kj2).bind fun t230 => (if t230 = true then (some true) else (none))) = some r := by rw [if_pos rfl] at H; exact H
        clear H
        have H := H1
        clear H1
        replace H := Option.bind_eq_some_iff.mp H
        obtain ⟨t230, A100, H⟩ := H
        replace H : (if t230 = true then (some true) else (none)) = some r := H
        have A10 := Aside0.mk A100
        clear A100
        by_cases c11 : t230 = true
        · subst c11
          have H1 : (some true) = some r := by rw [if_pos rfl] at H; exact H
          clear H
          have H := H1
          clear H1
          obtain rfl := Option.some.inj H
          go_wp2_with (first | ((with_reducible refine gate_callee (f := 8) rfl ?_); refine goesL_ (some 27) rfl rfl Try.func8 (by kernel_rfl) rfl #[] rfl (by (try simp only [List.map_toArray, List.map_cons, List.map_nil]); first | done | rfl | (simp only [List.length_drop, List.length_take]; rfl)) ?_; (with_reducible refine (timesynclaw26_awake.calls kj2  true _ A10.out).mono ?_); rintro e w12 ⟨rfl, hb⟩; refine ⟨_, rfl, ?_⟩; have n0_ := Aside0.mk (below_step (by repeat (first | (with_reducible first | exact HB.out | apply below_alloc | apply pw_below_drewN | apply below_drew1) | exact HB.out)) hb); clear HB; have HB := n0_; clear n0_; (try clear hb); (try clear hb2); (try clear hk); (try clear hi)))
          go_ret
          exact ⟨by first | rfl | (simp [errW_none, errW_some] <;> rfl) | (simp [*, errW_none, errW_some] <;> rfl), by repeat (first | (with_reducible first | exact HB.out | apply below_alloc | apply pw_below_drewN | apply below_drew1) | exact HB.out)⟩
        · replace c11 := Bool.eq_false_iff.mpr c11
          subst c11
          have H1 : (none) = some r := by rw [if_neg (show ¬ (false = true) by decide)] at H; exact H
          clear H
          have H := H1
          clear H1
          exact absurd H (by simp)
      · replace c9 := Bool.eq_false_iff.mpr c9
        subst c9
        have H1 : ((api_Cand.f l0).bind fun t231 => (timesynclaw26_CombineMoves.l0 kj2 l0 a1 t231 (t231.length : Int) 0)) = some r := by rw [if_neg (show ¬ (false = true) by decide)] at H; exact H
        clear H
        have H := H1
        clear H1
        replace H := Option.bind_eq_some_iff.mp H
        obtain ⟨t231, A130, H⟩ := H
        replace H : (timesynclaw26_CombineMoves.l0 kj2 l0 a1 t231 (t231.length : Int) 0) = some r := H
        have A13 := Aside0.mk A130
        clear A130
        have H' := Aside0.mk H
        clear H
        go_wp2_with (first | ((with_reducible refine gate_callee (f := 17) rfl ?_); refine goesL_ (some 29) rfl rfl Try.func17 (by kernel_rfl) rfl #[.slice A0 l0.length c0] rfl (by (try simp only [List.map_toArray, List.map_cons, List.map_nil]); first | done | rfl | (simp only [List.length_drop, List.length_take]; rfl)) ?_; (with_reducible refine (api_Cand.calls _ _ l0 t231 _ ?side1 ?side2 A13.out).mono ?_); (case side1 => repeat (first | exact (Kd.C_below HR0.out HB.out) | (with_reducible refine Kd.C_alloc ?_ _) | (with_reducible refine Kd.C_drewN ?_ _) | (with_reducible refine Kd.C_drew ?_))); (case side2 => exact HC0.out); rintro e w14 ⟨v232, rfl, ho0, hb⟩; refine ⟨_, rfl, ?_⟩; have n0_ := Aside0.mk (Kd.R_lower ho0 (below_size (by repeat (first | (with_reducible first | exact HB.out | apply below_alloc | apply pw_below_drewN | apply below_drew1) | exact HB.out)))); have n1_ := Aside0.mk (below_step (by repeat (first | (with_reducible first | exact HB.out | apply below_alloc | apply pw_below_drewN | apply below_drew1) | exact HB.out)) hb); clear HB; have HO233 := n0_; have HB := n1_; clear n0_ n1_; (try clear hb); (try clear hb2); (try clear hk); (try clear hi); (try clear ho0); obtain ⟨Ao15, co15, eo15⟩ := Kd.R_slice HO233.out; subst eo15))
        go_loopg [32] kj2 (fun kq v32 w' => ∃ (x5_2 : List (S34)) (x32_2 : Int), v32 = .int .i64 x32_2 ∧ Aside0 (timesynclaw26_CombineMoves.l0 kq l0 a1 x5_2 (t231.length : Int) x32_2 = some r) ∧ Aside0 (kq ≤ kj2) ∧ Aside0 (Kd.R k34 34 w' w.heap.size (fun _ => True) (.slice Ao15 t231.length co15) x5_2) ∧ Aside0 (Below w.heap.size w w'))
        case atStart => exact ⟨(t231), (0), (by first | rfl | (simp; done) | (simp [*]; done)), H', ⟨Nat.le_refl _⟩, ⟨by (with_reducible repeat (first | apply Kd.R_alloc | apply Kd.R_drewN | apply Kd.R_drew)); exact HO233.out⟩, ⟨by repeat (first | (with_reducible first | exact HB.out | apply below_alloc | apply pw_below_drewN | apply below_drew1) | exact HB.out)⟩⟩
        case round =>
          clear H'
          try clear c1
          try clear p2
          try clear c4
          try clear c4b0
          try clear c4b1
          try clear c5
          try clear c5b0
          try clear c6
          try clear c6b0
          try clear c7
          try clear c8
          try clear c9
          try clear c11
          try clear p2
          obtain ⟨x5_2, x32_2, rfl, HA, HK2, HO_5, HB⟩ := hrel
          have hl5_2 := (Kd.R_reads' HO_5.out).1
          rw [hl5_2] at HO_5
          (try simp only [hl5_2])
          cases gk with
          | zero => exact absurd HA.out (by simp [timesynclaw26_CombineMoves.l0])
          | succ k2 =>
            have H := HA.out
            clear HA
            simp only [timesynclaw26_CombineMoves.l0] at H
            by_cases c16 : x32_2 < (t231.length : Int)
            · rw [if_pos c16] at H
              have c16b0 : decide (x32_2 < (t231.length : Int)) = true := decide_eq_true c16
              clear c16
              by_cases c17 : 0 ≤ x32_2
              · rw [if_pos c17] at H
                have c17b0 : decide (0 ≤ x32_2) = true := decide_eq_true c17
                clear c17
                by_cases c18 : x32_2 < (x5_2.length : Int)
                · rw [if_pos c18] at H
                  have c18b0 : decide (x32_2 < (x5_2.length : Int)) = true := decide_eq_true c18
                  clear c18
                  obtain ⟨y235, hy235⟩ : ∃ y_ : List (S34), y_ = (x5_2.set (x32_2 : Int).toNat (⟨(rd_T34 x5_2 x32_2).f0, wrap64 (((rd_T34 x5_2 x32_2).f1) + a1), (rd_T34 x5_2 x32_2).f2, (rd_T34 x5_2 x32_2).f3, (rd_T34 x5_2 x32_2).f4⟩ : S34)) := ⟨_, rfl⟩
                  replace H : (timesynclaw26_CombineMoves.l0 k2 l0 a1 y235 (t231.length : Int) (wrap64 (x32_2 + 1))) = some r := by first | (rw [hy235]; with_reducible exact H) | (have H2_ := (Option.bind_some _ _).symm.trans H; rw [hy235]; with_reducible exact H2_) | (have H2_ := (Option.bind_some _ _).symm.trans H; with_reducible exact H2_) | with_reducible exact H | (rw [hy235]; exact H) | exact H
                  have Ny235 := Aside0.mk hy235
                  clear hy235
                  have H' := Aside0.mk H
                  clear H
                  have p234 : 0 ≤ (x32_2 : Int) := of_decide_eq_true (by first | (with_reducible assumption) | assumption)
                  have q234 : x32_2 < (x5_2.length : Int) := of_decide_eq_true (by first | (with_reducible assumption) | assumption)
                  obtain ⟨ad234, e234, hx234_0, hx234_1, hx234_2, hx234_3, hx234_4⟩ := at_T34 (Kd.R_reads' HO_5.out).2.2 x32_2 p234 q234
                  cases e234
                  replace p234 := eq_true p234
                  replace q234 := eq_true q234
                  have p19 : 0 ≤ (x32_2 : Int) := of_decide_eq_true (by first | (with_reducible assumption) | assumption)
                  have q19 : (x32_2 : Int) < ((x5_2.length : Int) : Int) := of_decide_eq_true (by first | (with_reducible assumption) | assumption)
                  obtain ⟨go19, co19, eo19, gb19, gl19, cl19, HG19⟩ := Kd.R_form HO_5.out (by omega)
                  (first | cases eo19 | (injection eo19 with ea_ en_ ec_; (first | subst ea_ | (injection ea_ with ea_; subst ea_)); subst ec_; clear en_))
                  have GB19 := Aside0.mk gb19
                  have GG19 := Aside0.mk HG19
                  clear gb19 gl19 HG19
                  (first | simp only [add_plain] at hx234_0 | skip)
                  (first | simp only [add_plain] at hx234_1 | skip)
                  (first | simp only [add_plain] at hx234_2 | skip)
                  (first | simp only [add_plain] at hx234_3 | skip)
                  (first | simp only [add_plain] at hx234_4 | skip)
                  obtain ⟨ce19, hcl19, hM19, hcc19, hfr19⟩ := Kd.R_elem HO_5.out z34 (x32_2 : Int) p19 q19
                  obtain rfl := k34_openM hM19
                  have hx19_0 : wr.cell? ⟨go19, (x32_2 : Int).toNat * 5, none⟩ = some (.int .i64 ((rd_T34 x5_2 x32_2).f0)) := hcc19 0 _ rfl
                  have hx19_1 : wr.cell? ⟨go19, (x32_2 : Int).toNat * 5 + 1, none⟩ = some (.int .i64 ((rd_T34 x5_2 x32_2).f1)) := hcc19 1 _ rfl
                  have hx19_2 : wr.cell? ⟨go19, (x32_2 : Int).toNat * 5 + 2, none⟩ = some (.int .i64 ((rd_T34 x5_2 x32_2).f2)) := hcc19 2 _ rfl
                  have hx19_3 : wr.cell? ⟨go19, (x32_2 : Int).toNat * 5 + 3, none⟩ = some (.int .i64 ((rd_T34 x5_2 x32_2).f3)) := hcc19 3 _ rfl
                  have hx19_4 : wr.cell? ⟨go19, (x32_2 : Int).toNat * 5 + 4, none⟩ = some (.int .i64 ((rd_T34 x5_2 x32_2).f4)) := hcc19 4 _ rfl
                  have hf19_0 : wr.frozen? ⟨go19, (x32_2 : Int).toNat * 5, none⟩ = false := hfr19 0
                  have hf19_1 : wr.frozen? ⟨go19, (x32_2 : Int).toNat * 5 + 1, none⟩ = false := hfr19 1
                  have hf19_2 : wr.frozen? ⟨go19, (x32_2 : Int).toNat * 5 + 2, none⟩ = false := hfr19 2
                  have hf19_3 : wr.frozen? ⟨go19, (x32_2 : Int).toNat * 5 + 3, none⟩ = false := hfr19 3
                  have hf19_4 : wr.frozen? ⟨go19, (x32_2 : Int).toNat * 5 + 4, none⟩ = false := hfr19 4
                  clear hcl19 hcc19 hfr19 hM19
                  replace p19 := eq_true p19
                  replace q19 := eq_true q19
                  have HX20 := Aside0.mk (show Kd.R k34 34 wr w.heap.size (fun _ => True) (.slice (some ⟨go19, 0, none⟩) x5_2.length co15) x5_2 from (by (with_reducible repeat (first | apply Kd.R_alloc | apply Kd.R_drewN | apply Kd.R_drew)); exact HO_5.out))
                  obtain ⟨ce20, hcl20, hM20, hcc20, hfr20⟩ := Kd.R_elem HX20.out z34 (x32_2 : Int) (of_decide_eq_true (by first | (with_reducible assumption) | assumption)) (by have h_ : (x32_2 : Int) < ((x5_2.length : Int) : Int) := of_decide_eq_true (by first | (with_reducible assumption) | assumption); first | exact h_ | (have e_ := (Kd.R_reads' HO_5.out).1; omega) | simpa using h_)
                  obtain rfl := k34_openM hM20
                  have HP20 := Kd.R_seg HX20.out (x32_2 : Int) (of_decide_eq_true (by first | (with_reducible assumption) | assumption)) (by have h_ : (x32_2 : Int) < ((x5_2.length : Int) : Int) := of_decide_eq_true (by first | (with_reducible assumption) | assumption); first | exact h_ | (have e_ := (Kd.R_reads' HO_5.out).1; omega) | simpa using h_) (seg := [.int .i64 (wrap64 (((rd_T34 x5_2 x32_2).f1) + a1))]) (j := 1) hcl20 hcc20 (show 2 ≤ 5 from by decide) (x' := (⟨(rd_T34 x5_2 x32_2).f0, wrap64 (((rd_T34 x5_2 x32_2).f1) + a1), (rd_T34 x5_2 x32_2).f2, (rd_T34 x5_2 x32_2).f3, (rd_T34 x5_2 x32_2).f4⟩ : S34)) (k34_mkM _ _ _ (⟨(rd_T34 x5_2 x32_2).f0, wrap64 (((rd_T34 x5_2 x32_2).f1) + a1), (rd_T34 x5_2 x32_2).f2, (rd_T34 x5_2 x32_2).f3, (rd_T34 x5_2 x32_2).f4⟩ : S34) ) (fun _ hk => hk)
                  have hx20_1 := hcc20 1 _ rfl
                  (try simp only [show (k34).sz = 5 from rfl, Nat.mul_one, Nat.add_zero] at hx20_1)
                  have hf20_1 := hfr20 1
                  (try simp only [show (k34).sz = 5 from rfl, Nat.mul_one, Nat.add_zero] at hf20_1)
                  clear hcl20 hcc20 hfr20 hM20
                  go_wp2_with (first | ((with_reducible refine gate_store (t := 3) (p := 43) rfl ?_); refine store_event (t := 3) (p := 43) (v := ?vo_w21) (w1 := (wr.setCell ⟨go19, (x32_2 : Int).toNat * 5 + 1, none⟩ (.int .i64 (wrap64 (((rd_T34 x5_2 x32_2).f1) + a1))))) ?hg ?ho ?hn ?hr ?_; (case ho => rfl); (case hg => rfl); (case hn => rfl); (case hr => first | (go_simp; done) | (go_simp; rfl)); intro w21 hw; have hg : wr.grownBy w21 (some go19) := (by rw [hw]; exact HP20.2); have hp_ : Kd.R k34 34 w21 w.heap.size (fun _ => True) (.slice (some ⟨go19, 0, none⟩) x5_2.length co15) y235 := (by rw [hw, Ny235.out]; exact HP20.1); clear HP20; have n0_ := Aside0.mk (hp_); have n1_ := Aside0.mk ((by rw [hw]; exact below_set (HB.out) GB19.out : Below w.heap.size w w21)); clear HO_5; clear HB; have HO_5 := n0_; have HB := n1_; clear n0_ n1_; clear hg hw hp_))
                  (try simp only [← hl5_2])
                  go_roundg k2
                  case measure => have := HJ2.out; have := HK2.out; omega
                  case rel => exact ⟨(y235), (wrap64 (x32_2 + 1)), (by first | rfl | (simp; done) | (simp [*]; done)), H', ⟨by have := HJ2.out; have := HK2.out; omega⟩, ⟨by (try simp only [hl5_2]); (with_reducible repeat (first | apply Kd.R_alloc | apply Kd.R_drewN | apply Kd.R_drew)); exact HO_5.out⟩, ⟨by repeat (first | (with_reducible first | exact HB.out | apply below_alloc | apply pw_below_drewN | apply below_drew1) | exact HB.out)⟩⟩
                · rw [if_neg c18] at H
                  exact absurd H (by simp)
              · rw [if_neg c17] at H
                exact absurd H (by simp)
            · rw [if_neg c16] at H
              have c16b0 : decide (x32_2 < (t231.length : Int)) = false := decide_eq_false c16
              have c16b9 : decide (x32_2 < (x5_2.length : Int)) = false := decide_eq_false (by have := hl5_2; omega)
              clear c16
              replace H := Option.bind_eq_some_iff.mp H
              obtain ⟨⟨t236, t237⟩, A220, H⟩ := H
              replace H : ((combine_Mean.f k2 x5_2).bind fun bt238 => ((choose_Check.f k2 x5_2).bind fun t240 => (if t240 = 0 then (if t237 = 0 then (timesynclaw26_CombineMoves.j2 k2 l0 a1 x5_2 t236 bt238.1 (bt238.2 != 0)) else (timesynclaw26_CombineMoves.j2 k2 l0 a1 x5_2 t236 bt238.1 true)) else (timesynclaw26_CombineMoves.j2 k2 l0 a1 x5_2 t236 bt238.1 true)))) = some r := H
              have A22 := Aside0.mk A220
              clear A220
              replace H := Option.bind_eq_some_iff.mp H
              obtain ⟨⟨t238, t239⟩, A230, H⟩ := H
              replace H : ((choose_Check.f k2 x5_2).bind fun t240 => (if t240 = 0 then (if t237 = 0 then (timesynclaw26_CombineMoves.j2 k2 l0 a1 x5_2 t236 t238 (t239 != 0)) else (timesynclaw26_CombineMoves.j2 k2 l0 a1 x5_2 t236 t238 true)) else (timesynclaw26_CombineMoves.j2 k2 l0 a1 x5_2 t236 t238 true))) = some r := H
              have A23 := Aside0.mk A230
              clear A230
              have HC24 := Aside0.mk H
              clear H
              go_upto_region 11 with (first | ((with_reducible refine gate_callee (f := 9) rfl ?_); refine goesL_ (some 47) rfl rfl Try.func9 (by kernel_rfl) rfl #[.slice A0 l0.length c0] rfl (by (try simp only [List.map_toArray, List.map_cons, List.map_nil]); first | done | rfl | (simp only [List.length_drop, List.length_take]; rfl)) ?_; (with_reducible refine (combine_Mean.calls k2 _ _ l0 t236 t237 _ ?side1 ?side2 A22.out).mono ?_); (case side1 => repeat (first | exact (Kd.C_below HR0.out HB.out) | (with_reducible refine Kd.C_alloc ?_ _) | (with_reducible refine Kd.C_drewN ?_ _) | (with_reducible refine Kd.C_drew ?_))); (case side2 => exact HC0.out); rintro e w25 ⟨rfl, hb⟩; refine ⟨_, rfl, ?_⟩; have n0_ := Aside0.mk (Kd.R_below (by (with_reducible repeat (first | apply Kd.R_alloc | apply Kd.R_drewN | apply Kd.R_drew)); exact HO_5.out) hb); have n1_ := Aside0.mk (below_step (by repeat (first | (with_reducible first | exact HB.out | apply below_alloc | apply pw_below_drewN | apply below_drew1) | exact HB.out)) hb); clear HO_5; clear HB; have HO_5 := n0_; have HB := n1_; clear n0_ n1_; (try clear hb); (try clear hb2); (try clear hk); (try clear hi)) | ((with_reducible refine gate_callee (f := 9) rfl ?_); refine goesL_ (some 52) rfl rfl Try.func9 (by kernel_rfl) rfl #[.slice Ao15 x5_2.length co15] rfl (by (try simp only [List.map_toArray, List.map_cons, List.map_nil]); first | done | rfl | (simp only [List.length_drop, List.length_take]; rfl)) ?_; (with_reducible refine (combine_Mean.calls k2 _ _ x5_2 t238 t239 _ ?side1 ?side2 A23.out).mono ?_); (case side1 => repeat (first | exact (Kd.R_reads' HO_5.out).2.2 | (with_reducible refine Kd.C_alloc ?_ _) | (with_reducible refine Kd.C_drewN ?_ _) | (with_reducible refine Kd.C_drew ?_))); (case side2 => exact (Kd.R_reads' HO_5.out).2.1); rintro e w26 ⟨rfl, hb⟩; refine ⟨_, rfl, ?_⟩; have n0_ := Aside0.mk (Kd.R_below (by (with_reducible repeat (first | apply Kd.R_alloc | apply Kd.R_drewN | apply Kd.R_drew)); exact HO_5.out) hb); have n1_ := Aside0.mk (below_step (by repeat (first | (with_reducible first | exact HB.out | apply below_alloc | apply pw_below_drewN | apply below_drew1) | exact HB.out)) hb); clear HO_5; clear HB; have HO_5 := n0_; have HB := n1_; clear n0_ n1_; (try clear hb); (try clear hb2); (try clear hk); (try clear hi)))
              (try simp only [Act.put, List.setIfInBounds_toArray, List.set_cons_zero, List.set_cons_succ])
              go_cut [65] (fun v65 wc => ∃ (kq : Nat) (x65_23 : Bool), v65 = .bool x65_23 ∧ Aside0 (timesynclaw26_CombineMoves.j2 kq l0 a1 x5_2 t236 t238 x65_23 = some r) ∧ Aside0 (kq ≤ k2) ∧ Aside0 (Kd.R k34 34 wc w.heap.size (fun _ => True) (.slice Ao15 x5_2.length co15) x5_2) ∧ Aside0 (Below w.heap.size w wc))
              case first =>
                have H := HC24.out
                clear HC24
                replace H := Option.bind_eq_some_iff.mp H
                obtain ⟨t240, A270, H⟩ := H
                replace H : (if t240 = 0 then (if t237 = 0 then (timesynclaw26_CombineMoves.j2 k2 l0 a1 x5_2 t236 t238 (t239 != 0)) else (timesynclaw26_CombineMoves.j2 k2 l0 a1 x5_2 t236 t238 true)) else (timesynclaw26_CombineMoves.j2 k2 l0 a1 x5_2 t236 t238 true)) = some r := H
                have A27 := Aside0.mk A270
                clear A270
                by_cases c28 : t240 = 0
                · rw [if_pos c28] at H
                  have c28b0 : (t240 == 0) = true := beq_iff_eq.mpr c28
                  have c28b1 : (t240 != 0) = false := bne_eq_false_iff_eq.mpr c28
                  clear c28
                  (first | rw [c28b0] | (simp only [i64_w, i32_w]; rw [c28b0]) | skip)
                  by_cases c29 : t237 = 0
                  · rw [if_pos c29] at H
                    have c29b0 : (t237 == 0) = true := beq_iff_eq.mpr c29
                    have c29b1 : (t237 != 0) = false := bne_eq_false_iff_eq.mpr c29
                    clear c29
                    have H' := Aside0.mk H
                    clear H
                    go_wp2_with (first | ((with_reducible refine gate_callee (f := 14) rfl ?_); refine goesL_ (some 56) rfl rfl Try.func14 (by kernel_rfl) rfl #[.slice Ao15 x5_2.length co15] rfl (by (try simp only [List.map_toArray, List.map_cons, List.map_nil]); first | done | rfl | (simp only [List.length_drop, List.length_take]; rfl)) ?_; (with_reducible refine (choose_Check.calls k2 _ _ x5_2 t240 _ ?side1 ?side2 A27.out).mono ?_); (case side1 => repeat (first | exact (Kd.R_reads' HO_5.out).2.2 | (with_reducible refine Kd.C_alloc ?_ _) | (with_reducible refine Kd.C_drewN ?_ _) | (with_reducible refine Kd.C_drew ?_))); (case side2 => exact (Kd.R_reads' HO_5.out).2.1); rintro e w30 ⟨rfl, hb⟩; refine ⟨_, rfl, ?_⟩; have n0_ := Aside0.mk (Kd.R_below (by (with_reducible repeat (first | apply Kd.R_alloc | apply Kd.R_drewN | apply Kd.R_drew)); exact HO_5.out) hb); have n1_ := Aside0.mk (below_step (by repeat (first | (with_reducible first | exact HB.out | apply below_alloc | apply pw_below_drewN | apply below_drew1) | exact HB.out)) hb); clear HO_5; clear HB; have HO_5 := n0_; have HB := n1_; clear n0_ n1_; (try clear hb); (try clear hb2); (try clear hk); (try clear hi)))
                    go_meet
                    case rel => exact ⟨_, ((t239 != 0)), (by first | rfl | (simp; done) | (simp [*]; done)), H', ⟨by have := HJ2.out; have := HK2.out; first | omega | exact Nat.le_refl _⟩, ⟨by (try simp only [hl5_2]); (with_reducible repeat (first | apply Kd.R_alloc | apply Kd.R_drewN | apply Kd.R_drew)); exact HO_5.out⟩, ⟨by repeat (first | (with_reducible first | exact HB.out | apply below_alloc | apply pw_below_drewN | apply below_drew1) | exact HB.out)⟩⟩
                  · rw [if_neg c29] at H
                    have c29b0 : (t237 == 0) = false := beq_eq_false_iff_ne.mpr c29
                    have c29b1 : (t237 != 0) = true := bne_iff_ne.mpr c29
                    have H' := Aside0.mk H
                    clear H
                    go_wp2_with (first | ((with_reducible refine gate_callee (f := 14) rfl ?_); refine goesL_ (some 56) rfl rfl Try.func14 (by kernel_rfl) rfl #[.slice Ao15 x5_2.length co15] rfl (by (try simp only [List.map_toArray, List.map_cons, List.map_nil]); first | done | rfl | (simp only [List.length_drop, List.length_take]; rfl)) ?_; (with_reducible refine (choose_Check.calls k2 _ _ x5_2 t240 _ ?side1 ?side2 A27.out).mono ?_); (case side1 => repeat (first | exact (Kd.R_reads' HO_5.out).2.2 | (with_reducible refine Kd.C_alloc ?_ _) | (with_reducible refine Kd.C_drewN ?_ _) | (with_reducible refine Kd.C_drew ?_))); (case side2 => exact (Kd.R_reads' HO_5.out).2.1); rintro e w31 ⟨rfl, hb⟩; refine ⟨_, rfl, ?_⟩; have n0_ := Aside0.mk (Kd.R_below (by (with_reducible repeat (first | apply Kd.R_alloc | apply Kd.R_drewN | apply Kd.R_drew)); exact HO_5.out) hb); have n1_ := Aside0.mk (below_step (by repeat (first | (with_reducible first | exact HB.out | apply below_alloc | apply pw_below_drewN | apply below_drew1) | exact HB.out)) hb); clear HO_5; clear HB; have HO_5 := n0_; have HB := n1_; clear n0_ n1_; (try clear hb); (try clear hb2); (try clear hk); (try clear hi)))
                    go_meet
                    case rel => exact ⟨_, (true), (by first | rfl | (simp; done) | (simp [*]; done)), H', ⟨by have := HJ2.out; have := HK2.out; first | omega | exact Nat.le_refl _⟩, ⟨by (try simp only [hl5_2]); (with_reducible repeat (first | apply Kd.R_alloc | apply Kd.R_drewN | apply Kd.R_drew)); exact HO_5.out⟩, ⟨by repeat (first | (with_reducible first | exact HB.out | apply below_alloc | apply pw_below_drewN | apply below_drew1) | exact HB.out)⟩⟩
                · rw [if_neg c28] at H
                  have c28b0 : (t240 == 0) = false := beq_eq_false_iff_ne.mpr c28
                  have c28b1 : (t240 != 0) = true := bne_iff_ne.mpr c28
                  (first | rw [c28b0] | (simp only [i64_w, i32_w]; rw [c28b0]) | skip)
                  have H' := Aside0.mk H
                  clear H
                  go_wp2_with (first | ((with_reducible refine gate_callee (f := 14) rfl ?_); refine goesL_ (some 56) rfl rfl Try.func14 (by kernel_rfl) rfl #[.slice Ao15 x5_2.length co15] rfl (by (try simp only [List.map_toArray, List.map_cons, List.map_nil]); first | done | rfl | (simp only [List.length_drop, List.length_take]; rfl)) ?_; (with_reducible refine (choose_Check.calls k2 _ _ x5_2 t240 _ ?side1 ?side2 A27.out).mono ?_); (case side1 => repeat (first | exact (Kd.R_reads' HO_5.out).2.2 | (with_reducible refine Kd.C_alloc ?_ _) | (with_reducible refine Kd.C_drewN ?_ _) | (with_reducible refine Kd.C_drew ?_))); (case side2 => exact (Kd.R_reads' HO_5.out).2.1); rintro e w32 ⟨rfl, hb⟩; refine ⟨_, rfl, ?_⟩; have n0_ := Aside0.mk (Kd.R_below (by (with_reducible repeat (first | apply Kd.R_alloc | apply Kd.R_drewN | apply Kd.R_drew)); exact HO_5.out) hb); have n1_ := Aside0.mk (below_step (by repeat (first | (with_reducible first | exact HB.out | apply below_alloc | apply pw_below_drewN | apply below_drew1) | exact HB.out)) hb); clear HO_5; clear HB; have HO_5 := n0_; have HB := n1_; clear n0_ n1_; (try clear hb); (try clear hb2); (try clear hk); (try clear hi)))
                  go_meet
                  case rel => exact ⟨_, (true), (by first | rfl | (simp; done) | (simp [*]; done)), H', ⟨by have := HJ2.out; have := HK2.out; first | omega | exact Nat.le_refl _⟩, ⟨by (try simp only [hl5_2]); (with_reducible repeat (first | apply Kd.R_alloc | apply Kd.R_drewN | apply Kd.R_drew)); exact HO_5.out⟩, ⟨by repeat (first | (with_reducible first | exact HB.out | apply below_alloc | apply pw_below_drewN | apply below_drew1) | exact HB.out)⟩⟩
              case rest =>
                clear HC24
                try clear c1
                try clear p1
                try clear q1
                try clear hx1
                try clear c2
                try clear p2
                try clear q2
                try clear hx2
                try clear hf2
                try clear c4
                try clear c4b0
                try clear c4b1
                try clear c5
                try clear c5b0
                try clear c6
                try clear c6b0
                try clear p6
                try clear c7
                try clear c8
                try clear c9
                try clear c11
                try clear c14
                try clear c16
                try clear c16b0
                try clear c17
                try clear c17b0
                try clear c18
                try clear c18b0
                try clear c19
                try clear p19
                try clear q19
                try clear hx19
                try clear hf19
                try clear c20
                try clear hx20
                try clear hf20
                try clear p23
                try clear q23
                try clear hx23
                try clear c28
                try clear c28b0
                try clear c28b1
                try clear c29
                try clear c29b0
                try clear c29b1
                try clear hx19_0
                try clear hx19_1
                try clear hx19_2
                try clear hx19_3
                try clear hx19_4
                try clear hx20_1
                try clear hx234_0
                try clear hx234_1
                try clear hx234_2
                try clear hx234_3
                try clear hx234_4
                try clear p19
                try clear p2
                try clear p234
                try clear q19
                try clear q234
                obtain ⟨kq, x65_23, rfl, HA, HJ23, HO_5, HB⟩ := hcut
                cases kq with
                | zero => exact absurd HA.out (by simp [timesynclaw26_CombineMoves.j2])
                | succ kj23 =>
                  have H := HA.out
                  clear HA
                  simp only [timesynclaw26_CombineMoves.j2] at H
                  by_cases c33 : x65_23 = true
                  · subst c33
                    have H1 : ((timesynclaw26_awake.f kj23).bind fun t241 => (if t241 = true then (some true) else (none))) = some r := by rw [if_pos rfl] at H; exact H
                    clear H
                    have H := H1
                    clear H1
                    replace H := Option.bind_eq_some_iff.mp H
                    obtain ⟨t241, A340, H⟩ := H
                    replace H : (if t241 = true then (some true) else (none)) = some r := H
                    have A34 := Aside0.mk A340
                    clear A340
                    by_cases c35 : t241 = true
                    · subst c35
                      have H1 : (some true) = some r := by rw [if_pos rfl] at H; exact H
                      clear H
                      have H := H1
                      clear H1
                      obtain rfl := Option.some.inj H
                      go_wp2_with (first | ((with_reducible refine gate_callee (f := 8) rfl ?_); refine goesL_ (some 66) rfl rfl Try.func8 (by kernel_rfl) rfl #[] rfl (by (try simp only [List.map_toArray, List.map_cons, List.map_nil]); first | done | rfl | (simp only [List.length_drop, List.length_take]; rfl)) ?_; (with_reducible refine (timesynclaw26_awake.calls kj23  true _ A34.out).mono ?_); rintro e w36 ⟨rfl, hb⟩; refine ⟨_, rfl, ?_⟩; have n0_ := Aside0.mk (Kd.R_below (by (with_reducible repeat (first | apply Kd.R_alloc | apply Kd.R_drewN | apply Kd.R_drew)); exact HO_5.out) hb); have n1_ := Aside0.mk (below_step (by repeat (first | (with_reducible first | exact HB.out | apply below_alloc | apply pw_below_drewN | apply below_drew1) | exact HB.out)) hb); clear HO_5; clear HB; have HO_5 := n0_; have HB := n1_; clear n0_ n1_; (try clear hb); (try clear hb2); (try clear hk); (try clear hi)))
                      go_ret
                      exact ⟨by first | rfl | (simp [errW_none, errW_some] <;> rfl) | (simp [*, errW_none, errW_some] <;> rfl), by repeat (first | (with_reducible first | exact HB.out | apply below_alloc | apply pw_below_drewN | apply below_drew1) | exact HB.out)⟩
                    · replace c35 := Bool.eq_false_iff.mpr c35
                      subst c35
                      have H1 : (none) = some r := by rw [if_neg (show ¬ (false = true) by decide)] at H; exact H
                      clear H
                      have H := H1
                      clear H1
                      exact absurd H (by simp)
                  · replace c33 := Bool.eq_false_iff.mpr c33
                    subst c33
                    have H1 : (if (wrap64 (t238 - t236)) = a1 then ((combine_Jitter.f kj23 x5_2).bind fun t242 => ((combine_Jitter.f kj23 l0).bind fun t243 => (if t242 = t243 then ((combine_Dist.f kj23 x5_2).bind fun t244 => ((combine_Dist.f kj23 l0).bind fun t245 => (if t244 = t245 then ((combine_Weights.f kj23 x5_2).bind fun t246 => ((combine_Weights.f kj23 l0).bind fun t249 => ((slices_Equal_int_int.f kj23 t246 t249).bind fun t252 => (if t252 = true then ((timesynclaw26_awake.f kj23).bind fun t253 => (if t253 = true then (some true) else (none))) else (none))))) else (none)))) else (none)))) else (none)) = some r := by rw [if_neg (show ¬ (false = true) by decide)] at H; exact H
                    clear H
                    have H := H1
                    clear H1
                    by_cases c37 : (wrap64 (t238 - t236)) = a1
                    · rw [if_pos c37] at H
                      have c37b0 : ((wrap64 (t238 - t236)) == a1) = true := beq_iff_eq.mpr c37
                      have c37b1 : ((wrap64 (t238 - t236)) != a1) = false := bne_eq_false_iff_eq.mpr c37
                      clear c37
                      replace H := Option.bind_eq_some_iff.mp H
                      obtain ⟨t242, A380, H⟩ := H
                      replace H : ((combine_Jitter.f kj23 l0).bind fun t243 => (if t242 = t243 then ((combine_Dist.f kj23 x5_2).bind fun t244 => ((combine_Dist.f kj23 l0).bind fun t245 => (if t244 = t245 then ((combine_Weights.f kj23 x5_2).bind fun t246 => ((combine_Weights.f kj23 l0).bind fun t249 => ((slices_Equal_int_int.f kj23 t246 t249).bind fun t252 => (if t252 = true then ((timesynclaw26_awake.f kj23).bind fun t253 => (if t253 = true then (some true) else (none))) else (none))))) else (none)))) else (none))) = some r := H
                      have A38 := Aside0.mk A380
                      clear A380
                      replace H := Option.bind_eq_some_iff.mp H
                      obtain ⟨t243, A390, H⟩ := H
                      replace H : (if t242 = t243 then ((combine_Dist.f kj23 x5_2).bind fun t244 => ((combine_Dist.f kj23 l0).bind fun t245 => (if t244 = t245 then ((combine_Weights.f kj23 x5_2).bind fun t246 => ((combine_Weights.f kj23 l0).bind fun t249 => ((slices_Equal_int_int.f kj23 t246 t249).bind fun t252 => (if t252 = true then ((timesynclaw26_awake.f kj23).bind fun t253 => (if t253 = true then (some true) else (none))) else (none))))) else (none)))) else (none)) = some r := H
                      have A39 := Aside0.mk A390
                      clear A390
                      by_cases c40 : t242 = t243
                      · rw [if_pos c40] at H
                        have c40b0 : (t242 == t243) = true := beq_iff_eq.mpr c40
                        have c40b1 : (t242 != t243) = false := bne_eq_false_iff_eq.mpr c40
                        clear c40
                        replace H := Option.bind_eq_some_iff.mp H
                        obtain ⟨t244, A410, H⟩ := H
                        replace H : ((combine_Dist.f kj23 l0).bind fun t245 => (if t244 = t245 then ((combine_Weights.f kj23 x5_2).bind fun t246 => ((combine_Weights.f kj23 l0).bind fun t249 => ((slices_Equal_int_int.f kj23 t246 t249).bind fun t252 => (if t252 = true then ((timesynclaw26_awake.f kj23).bind fun t253 => (if t253 = true then (some true) else (none))) else (none))))) else (none))) = some r := H
                        have A41 := Aside0.mk A410
                        clear A410
                        replace H := Option.bind_eq_some_iff.mp H
                        obtain ⟨t245, A420, H⟩ := H
                        replace H : (if t244 = t245 then ((combine_Weights.f kj23 x5_2).bind fun t246 => ((combine_Weights.f kj23 l0).bind fun t249 => ((slices_Equal_int_int.f kj23 t246 t249).bind fun t252 => (if t252 = true then ((timesynclaw26_awake.f kj23).bind fun t253 => (if t253 = true then (some true) else (none))) else (none))))) else (none)) = some r := H
                        have A42 := Aside0.mk A420
                        clear A420
                        by_cases c43 : t244 = t245
                        · rw [if_pos c43] at H
                          have c43b0 : (t244 == t245) = true := beq_iff_eq.mpr c43
                          have c43b1 : (t244 != t245) = false := bne_eq_false_iff_eq.mpr c43
                          clear c43
                          replace H := Option.bind_eq_some_iff.mp H
                          obtain ⟨t246, A440, H⟩ := H
                          replace H : ((combine_Weights.f kj23 l0).bind fun t249 => ((slices_Equal_int_int.f kj23 t246 t249).bind fun t252 => (if t252 = true then ((timesynclaw26_awake.f kj23).bind fun t253 => (if t253 = true then (some true) else (none))) else (none)))) = some r := H
                          have A44 := Aside0.mk A440
                          clear A440
                          replace H := Option.bind_eq_some_iff.mp H
                          obtain ⟨t249, A450, H⟩ := H
                          replace H : ((slices_Equal_int_int.f kj23 t246 t249).bind fun t252 => (if t252 = true then ((timesynclaw26_awake.f kj23).bind fun t253 => (if t253 = true then (some true) else (none))) else (none))) = some r := H
                          have A45 := Aside0.mk A450
                          clear A450
                          replace H := Option.bind_eq_some_iff.mp H
                          obtain ⟨t252, A460, H⟩ := H
                          replace H : (if t252 = true then ((timesynclaw26_awake.f kj23).bind fun t253 => (if t253 = true then (some true) else (none))) else (none)) = some r := H
                          have A46 := Aside0.mk A460
                          clear A460
                          by_cases c47 : t252 = true
                          · subst c47
                            have H1 : ((timesynclaw26_awake.f kj23).bind fun t253 => (if t253 = true then (some true) else (none))) = some r := by rw [if_pos rfl] at H; exact H
                            clear H
                            have H := H1
                            clear H1
                            replace H := Option.bind_eq_some_iff.mp H
                            obtain ⟨t253, A480, H⟩ := H
                            replace H : (if t253 = true then (some true) else (none)) = some r := H
                            have A48 := Aside0.mk A480
                            clear A480
                            by_cases c49 : t253 = true
                            · subst c49
                              have H1 : (some true) = some r := by rw [if_pos rfl] at H; exact H
                              clear H
                              have H := H1
                              clear H1
                              obtain rfl := Option.some.inj H
                              go_wp2_with (first | (go_at_call 16; (with_reducible refine (combine_Jitter.calls kj23 _ _ x5_2 t242 _ ?side1 ?side2 A38.out).mono ?_); (case side1 => repeat (first | exact (Kd.R_reads' HO_5.out).2.2 | (with_reducible refine Kd.C_alloc ?_ _) | (with_reducible refine Kd.C_drewN ?_ _) | (with_reducible refine Kd.C_drew ?_))); (case side2 => exact (Kd.R_reads' HO_5.out).2.1); rintro e w50 ⟨rfl, hb⟩; have n0_ := Aside0.mk (Kd.R_below (by (with_reducible repeat (first | apply Kd.R_alloc | apply Kd.R_drewN | apply Kd.R_drew)); exact HO_5.out) hb); have n1_ := Aside0.mk (below_step (by repeat (first | (with_reducible first | exact HB.out | apply below_alloc | apply pw_below_drewN | apply below_drew1) | exact HB.out)) hb); clear HO_5; clear HB; have HO_5 := n0_; have HB := n1_; clear n0_ n1_; (try clear hb); (try clear hb2); (try clear hk); (try clear hi)) | (go_at_call 16; (with_reducible refine (combine_Jitter.calls kj23 _ _ l0 t243 _ ?side1 ?side2 A39.out).mono ?_); (case side1 => repeat (first | exact (Kd.C_below HR0.out HB.out) | (with_reducible refine Kd.C_alloc ?_ _) | (with_reducible refine Kd.C_drewN ?_ _) | (with_reducible refine Kd.C_drew ?_))); (case side2 => exact HC0.out); rintro e w51 ⟨rfl, hb⟩; have n0_ := Aside0.mk (Kd.R_below (by (with_reducible repeat (first | apply Kd.R_alloc | apply Kd.R_drewN | apply Kd.R_drew)); exact HO_5.out) hb); have n1_ := Aside0.mk (below_step (by repeat (first | (with_reducible first | exact HB.out | apply below_alloc | apply pw_below_drewN | apply below_drew1) | exact HB.out)) hb); clear HO_5; clear HB; have HO_5 := n0_; have HB := n1_; clear n0_ n1_; (try clear hb); (try clear hb2); (try clear hk); (try clear hi)) | (go_at_call 15; (with_reducible refine (combine_Dist.calls kj23 _ _ x5_2 t244 _ ?side1 ?side2 A41.out).mono ?_); (case side1 => repeat (first | exact (Kd.R_reads' HO_5.out).2.2 | (with_reducible refine Kd.C_alloc ?_ _) | (with_reducible refine Kd.C_drewN ?_ _) | (with_reducible refine Kd.C_drew ?_))); (case side2 => exact (Kd.R_reads' HO_5.out).2.1); rintro e w52 ⟨rfl, hb⟩; have n0_ := Aside0.mk (Kd.R_below (by (with_reducible repeat (first | apply Kd.R_alloc | apply Kd.R_drewN | apply Kd.R_drew)); exact HO_5.out) hb); have n1_ := Aside0.mk (below_step (by repeat (first | (with_reducible first | exact HB.out | apply below_alloc | apply pw_below_drewN | apply below_drew1) | exact HB.out)) hb); clear HO_5; clear HB; have HO_5 := n0_; have HB := n1_; clear n0_ n1_; (try clear hb); (try clear hb2); (try clear hk); (try clear hi)) | (go_at_call 15; (with_reducible refine (combine_Dist.calls kj23 _ _ l0 t245 _ ?side1 ?side2 A42.out).mono ?_); (case side1 => repeat (first | exact (Kd.C_below HR0.out HB.out) | (with_reducible refine Kd.C_alloc ?_ _) | (with_reducible refine Kd.C_drewN ?_ _) | (with_reducible refine Kd.C_drew ?_))); (case side2 => exact HC0.out); rintro e w53 ⟨rfl, hb⟩; have n0_ := Aside0.mk (Kd.R_below (by (with_reducible repeat (first | apply Kd.R_alloc | apply Kd.R_drewN | apply Kd.R_drew)); exact HO_5.out) hb); have n1_ := Aside0.mk (below_step (by repeat (first | (with_reducible first | exact HB.out | apply below_alloc | apply pw_below_drewN | apply below_drew1) | exact HB.out)) hb); clear HO_5; clear HB; have HO_5 := n0_; have HB := n1_; clear n0_ n1_; (try clear hb); (try clear hb2); (try clear hk); (try clear hi)) | (go_at_call 12; (with_reducible refine (combine_Weights.calls kj23 _ _ x5_2 t246 _ ?side1 ?side2 A44.out).mono ?_); (case side1 => repeat (first | exact (Kd.R_reads' HO_5.out).2.2 | (with_reducible refine Kd.C_alloc ?_ _) | (with_reducible refine Kd.C_drewN ?_ _) | (with_reducible refine Kd.C_drew ?_))); (case side2 => exact (Kd.R_reads' HO_5.out).2.1); rintro e w54 ⟨v247, rfl, ho0, hb⟩; have n0_ := Aside0.mk (Kd.R_below (by (with_reducible repeat (first | apply Kd.R_alloc | apply Kd.R_drewN | apply Kd.R_drew)); exact HO_5.out) hb); have n1_ := Aside0.mk (Kd.R_lower ho0 (below_size (by repeat (first | (with_reducible first | exact HB.out | apply below_alloc | apply pw_below_drewN | apply below_drew1) | exact HB.out)))); have n2_ := Aside0.mk (below_step (by repeat (first | (with_reducible first | exact HB.out | apply below_alloc | apply pw_below_drewN | apply below_drew1) | exact HB.out)) hb); clear HO_5; clear HB; have HO_5 := n0_; have HO248 := n1_; have HB := n2_; clear n0_ n1_ n2_; (try clear hb); (try clear hb2); (try clear hk); (try clear hi); (try clear ho0)) | (go_at_call 12; (with_reducible refine (combine_Weights.calls kj23 _ _ l0 t249 _ ?side1 ?side2 A45.out).mono ?_); (case side1 => repeat (first | exact (Kd.C_below HR0.out HB.out) | (with_reducible refine Kd.C_alloc ?_ _) | (with_reducible refine Kd.C_drewN ?_ _) | (with_reducible refine Kd.C_drew ?_))); (case side2 => exact HC0.out); rintro e w55 ⟨v250, rfl, ho0, hb⟩; have n0_ := Aside0.mk (Kd.R_below (by (with_reducible repeat (first | apply Kd.R_alloc | apply Kd.R_drewN | apply Kd.R_drew)); exact HO_5.out) hb); have n1_ := Aside0.mk (Kd.R_elder' (by (with_reducible repeat (first | apply Kd.R_alloc | apply Kd.R_drewN | apply Kd.R_drew)); exact HO248.out) (Kd.R_base ho0) hb); have n2_ := Aside0.mk (Kd.R_lower (Kd.R_new' ho0 (Kd.R_lt (by (with_reducible repeat (first | apply Kd.R_alloc | apply Kd.R_drewN | apply Kd.R_drew)); exact HO248.out))) (below_size (by repeat (first | (with_reducible first | exact HB.out | apply below_alloc | apply pw_below_drewN | apply below_drew1) | exact HB.out)))); have n3_ := Aside0.mk (below_step (by repeat (first | (with_reducible first | exact HB.out | apply below_alloc | apply pw_below_drewN | apply below_drew1) | exact HB.out)) hb); clear HO_5; clear HO248; clear HB; have HO_5 := n0_; have HO248 := n1_; have HO251 := n2_; have HB := n3_; clear n0_ n1_ n2_ n3_; (try clear hb); (try clear hb2); (try clear hk); (try clear hi); (try clear ho0); obtain ⟨Ao56, co56, eo56⟩ := Kd.R_slice HO248.out; subst eo56; obtain ⟨Ao57, co57, eo57⟩ := Kd.R_slice HO251.out; subst eo57) | (go_at_call 11; (with_reducible refine (slices_Equal_int_int.calls kj23 _ _ t246 _ _ t249 true _ ?side1 ?side2 ?side3 ?side4 A46.out).mono ?_); (case side1 => repeat (first | exact (Kd.R_reads' HO248.out).2.2 | (with_reducible refine Kd.C_alloc ?_ _) | (with_reducible refine Kd.C_drewN ?_ _) | (with_reducible refine Kd.C_drew ?_))); (case side2 => exact (Kd.R_reads' HO248.out).2.1); (case side3 => repeat (first | exact (Kd.R_reads' HO251.out).2.2 | (with_reducible refine Kd.C_alloc ?_ _) | (with_reducible refine Kd.C_drewN ?_ _) | (with_reducible refine Kd.C_drew ?_))); (case side4 => exact (Kd.R_reads' HO251.out).2.1); rintro e w' ⟨rfl, ⟨nd, rfl⟩⟩) | (go_at_call 8; (with_reducible refine (timesynclaw26_awake.calls kj23  true _ A48.out).mono ?_); rintro e w58 ⟨rfl, hb⟩; have n0_ := Aside0.mk (Kd.R_below (by (with_reducible repeat (first | apply Kd.R_alloc | apply Kd.R_drewN | apply Kd.R_drew)); exact HO_5.out) hb); have n1_ := Aside0.mk (Kd.R_below (by (with_reducible repeat (first | apply Kd.R_alloc | apply Kd.R_drewN | apply Kd.R_drew)); exact HO248.out) hb); have n2_ := Aside0.mk (Kd.R_below (by (with_reducible repeat (first | apply Kd.R_alloc | apply Kd.R_drewN | apply Kd.R_drew)); exact HO251.out) hb); have n3_ := Aside0.mk (below_step (by repeat (first | (with_reducible first | exact HB.out | apply below_alloc | apply pw_below_drewN | apply below_drew1) | exact HB.out)) hb); clear HO_5; clear HO248; clear HO251; clear HB; have HO_5 := n0_; have HO248 := n1_; have HO251 := n2_; have HB := n3_; clear n0_ n1_ n2_ n3_; (try clear hb); (try clear hb2); (try clear hk); (try clear hi)))
                              go_ret
                              exact ⟨by first | rfl | (simp [errW_none, errW_some] <;> rfl) | (simp [*, errW_none, errW_some] <;> rfl), by repeat (first | (with_reducible first | exact HB.out | apply below_alloc | apply pw_below_drewN | apply below_drew1) | exact HB.out)⟩
                            · replace c49 := Bool.eq_false_iff.mpr c49
                              subst c49
                              have H1 : (none) = some r := by rw [if_neg (show ¬ (false = true) by decide)] at H; exact H
                              clear H
                              have H := H1
                              clear H1
                              exact absurd H (by simp)
                          · replace c47 := Bool.eq_false_iff.mpr c47
                            subst c47
                            have H1 : (none) = some r := by rw [if_neg (show ¬ (false = true) by decide)] at H; exact H
                            clear H
                            have H := H1
                            clear H1
                            exact absurd H (by simp)
                        · rw [if_neg c43] at H
                          exact absurd H (by simp)
                      · rw [if_neg c40] at H
                        exact absurd H (by simp)
                    · rw [if_neg c37] at H
                      exact absurd H (by simp)

end Go.Proofs.Ytgbajigcmadofaa.P
