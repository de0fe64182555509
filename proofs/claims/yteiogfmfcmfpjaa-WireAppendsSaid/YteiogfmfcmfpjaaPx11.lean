-- Written by xp.py, a program of this session, over the print of the loaded program; Lean checks it.
import Derived.Test.YteiogfmfcmfpjaaPx0
import Derived.Test.YteiogfmfcmfpjaaPx9
import Derived.Test.YteiogfmfcmfpjaaPx10
import Derived.Test.YteiogfmfcmfpjaaXApp
import Derived.Test.YteiogfmfcmfpjaaXAwk02
import Derived.Test.YteiogfmfcmfpjaaXCln02
namespace Go.Proofs.Yteiogfmfcmfpjaa.P
open Go.RowKit Go.Proofs.YteiogfmfcmfpjaaW.PrintWords Go.Proofs.YteiogfmfcmfpjaaW.PrintLast Go.Proofs.YteiogfmfcmfpjaaW.PrintMore
attribute [local go_sem] max2_int min2_int max_two min_two max_three min_three max_four min_four Go.Proofs.Yteiogfmfcmfpjaa.Op.isSome_setCell   -- for this text's walks alone
set_option linter.unusedVariables false
set_option linter.unusedSimpArgs false

/-! ### timesynclaw02_WireAppends: function 5 -/
mutual
def timesynclaw02_WireAppends.j0 : Nat → List Int → List Int → List Int → Bool → Option (Bool)
  | 0, _, _, _, _ => none
  | k + 1, x0, x7, x8, x64 => if x64 = true then (none) else (timesynclaw02_WireAppends.l0 k x0 x7 x8 (x8.length : Int) 0)
def timesynclaw02_WireAppends.l0 : Nat → List Int → List Int → List Int → Int → Int → Option (Bool)
  | 0, _, _, _, _, _ => none
  | k + 1, x0, x7, x8, x66, x67 => if x67 < x66 then (if 0 ≤ x67 then (if x67 < (x8.length : Int) then (timesynclaw02_WireAppends.l0 k x0 x7 (x8.set (x67 : Int).toNat (((rd x8 x67) + 1) % 256)) x66 (wrap64 (x67 + 1))) else (none)) else (none)) else (if 0 ≤ (x0.length : Int) then (if (x0.length : Int) ≤ (x7.length : Int) then ((slices_Equal_byte_byte.f k (x7.take ((x0.length : Int) : Int).toNat) x0).bind fun t163 => (if t163 = true then ((timesynclaw02_awake.f).bind fun t164 => (if t164 = true then (some true) else (none))) else (none))) else (none)) else (none))
end
def timesynclaw02_WireAppends.f (k : Nat) (l0 : List Int) (a1 : Int) (a2 : Int) : Option (Bool) := if (l0.length : Int) > 5000 then ((timesynclaw02_awake.f).bind fun t121 => (if t121 = true then (some true) else (none))) else ((slices_Clone_byte_byte.f l0).bind fun t122 => ((some (([9, 9, 9, 9, 9, 9, 9, 9] : List Int) : List Int)).bind fun y125 => (if t122.length + y125.length < 140737488355328 then ((some (t122 ++ y125 : List Int)).bind fun y128 => (if 0 ≤ (l0.length : Int) then (if (l0.length : Int) ≤ (y128.length : Int) then ((wire_Append.f (y128.take ((l0.length : Int) : Int).toNat) a1 a2).bind fun bt135 => ((timesyncref02_Append.f k l0 a1 a2).bind fun bt139 => (if bt135.2 = bt139.2 then ((slices_Equal_byte_byte.f k bt135.1 bt139.1).bind fun t143 => (if t143 = true then ((slices_Equal_byte_byte.f k (y128.take ((l0.length : Int) : Int).toNat) l0).bind fun t148 => (if t148 = true then ((slices_Equal_byte_byte.f k (y128.drop ((l0.length : Int) : Int).toNat) (([9, 9, 9, 9, 9, 9, 9, 9] : List Int))).bind fun t156 => (timesynclaw02_WireAppends.j0 k l0 y128 bt135.1 (!t156))) else (timesynclaw02_WireAppends.j0 k l0 y128 bt135.1 true))) else (timesynclaw02_WireAppends.j0 k l0 y128 bt135.1 true))) else (timesynclaw02_WireAppends.j0 k l0 y128 bt135.1 true)))) else (none)) else (none))) else (none))))
theorem timesynclaw02_WireAppends.mono_l : ∀ k, (∀ y0 y1 y2 y3, LeO (timesynclaw02_WireAppends.j0 k y0 y1 y2 y3) (timesynclaw02_WireAppends.j0 (k + 1) y0 y1 y2 y3)) ∧ (∀ y0 y1 y2 y3 y4, LeO (timesynclaw02_WireAppends.l0 k y0 y1 y2 y3 y4) (timesynclaw02_WireAppends.l0 (k + 1) y0 y1 y2 y3 y4))
  | 0 => ⟨fun _ _ _ _ r h => by simp [timesynclaw02_WireAppends.j0] at h, fun _ _ _ _ _ r h => by simp [timesynclaw02_WireAppends.l0] at h⟩
  | k + 1 => by
    obtain ⟨ih0, ih1⟩ := timesynclaw02_WireAppends.mono_l k
    refine ⟨?_, ?_⟩
    · intro y0 y1 y2 y3
      unfold timesynclaw02_WireAppends.j0
      repeat' first
      | (with_reducible exact ih0 _ _ _ _)
      | (with_reducible exact ih1 _ _ _ _ _)
      | (with_reducible exact slices_Equal_byte_byte.mono _ _ _)
      | (with_reducible exact timesyncref02_Append.mono _ _ _ _)
      | (with_reducible exact LeO.refl _)
      | (with_reducible exact LeO.none _)
      | (with_reducible refine LeO.ite ?_ ?_)
      | (with_reducible refine LeO.bind ?_ (fun _ => ?_))
      | exact ih0 _ _ _ _
      | exact ih1 _ _ _ _ _
      | exact slices_Equal_byte_byte.mono _ _ _
      | exact timesyncref02_Append.mono _ _ _ _
      | exact LeO.none _
      | refine LeO.ite ?_ ?_
      | refine LeO.bind ?_ (fun _ => ?_)
    · intro y0 y1 y2 y3 y4
      unfold timesynclaw02_WireAppends.l0
      repeat' first
      | (with_reducible exact ih0 _ _ _ _)
      | (with_reducible exact ih1 _ _ _ _ _)
      | (with_reducible exact slices_Equal_byte_byte.mono _ _ _)
      | (with_reducible exact timesyncref02_Append.mono _ _ _ _)
      | (with_reducible exact LeO.refl _)
      | (with_reducible exact LeO.none _)
      | (with_reducible refine LeO.ite ?_ ?_)
      | (with_reducible refine LeO.bind ?_ (fun _ => ?_))
      | exact ih0 _ _ _ _
      | exact ih1 _ _ _ _ _
      | exact slices_Equal_byte_byte.mono _ _ _
      | exact timesyncref02_Append.mono _ _ _ _
      | exact LeO.none _
      | refine LeO.ite ?_ ?_
      | refine LeO.bind ?_ (fun _ => ?_)
theorem timesynclaw02_WireAppends.mono : ∀ a0 a1 a2 k, LeO (timesynclaw02_WireAppends.f k a0 a1 a2) (timesynclaw02_WireAppends.f (k + 1) a0 a1 a2) := by
  intro a0 a1 a2 k
  obtain ⟨ih0, ih1⟩ := timesynclaw02_WireAppends.mono_l k
  unfold timesynclaw02_WireAppends.f
  repeat' first
      | (with_reducible exact ih0 _ _ _ _)
      | (with_reducible exact ih1 _ _ _ _ _)
      | (with_reducible exact slices_Equal_byte_byte.mono _ _ _)
      | (with_reducible exact timesyncref02_Append.mono _ _ _ _)
      | (with_reducible exact LeO.refl _)
      | (with_reducible exact LeO.none _)
      | (with_reducible refine LeO.ite ?_ ?_)
      | (with_reducible refine LeO.bind ?_ (fun _ => ?_))
      | exact ih0 _ _ _ _
      | exact ih1 _ _ _ _ _
      | exact slices_Equal_byte_byte.mono _ _ _
      | exact timesyncref02_Append.mono _ _ _ _
      | exact LeO.none _
      | refine LeO.ite ?_ ?_
      | refine LeO.bind ?_ (fun _ => ?_)
set_option maxHeartbeats 8000000 in
set_option maxRecDepth 100000 in
theorem timesynclaw02_WireAppends.calls (k : Nat) (A0 : Option Addr) (c0 : Nat) (l0 : List Int) (a1 : Int) (a2 : Int) (r : Bool) (w : World) (hr0 : Kd.C (Kd.int .u8) w A0 l0.length l0) (hc0 : l0.length ≤ c0) (h : timesynclaw02_WireAppends.f k l0 a1 a2 = some r) :
    Calls Try.prog 5 #[.slice A0 l0.length c0, .int .u64 a1, .int .i64 a2] w fun e w' => e = .returned (.bool r) ∧ Below w.heap.size w w' := by
  have HR0 := Aside0.mk hr0
  have HC0 := Aside0.mk hc0
  clear hr0 hc0
  have HB := Aside0.mk (Below.refl w.heap.size w)
  have H : (if (l0.length : Int) > 5000 then ((timesynclaw02_awake.f).bind fun t121 => (if t121 = true then (some true) else (none))) else ((slices_Clone_byte_byte.f l0).bind fun t122 => ((some (([9, 9, 9, 9, 9, 9, 9, 9] : List Int) : List Int)).bind fun y125 => (if t122.length + y125.length < 140737488355328 then ((some (t122 ++ y125 : List Int)).bind fun y128 => (if 0 ≤ (l0.length : Int) then (if (l0.length : Int) ≤ (y128.length : Int) then ((wire_Append.f (y128.take ((l0.length : Int) : Int).toNat) a1 a2).bind fun bt135 => ((timesyncref02_Append.f k l0 a1 a2).bind fun bt139 => (if bt135.2 = bt139.2 then ((slices_Equal_byte_byte.f k bt135.1 bt139.1).bind fun t143 => (if t143 = true then ((slices_Equal_byte_byte.f k (y128.take ((l0.length : Int) : Int).toNat) l0).bind fun t148 => (if t148 = true then ((slices_Equal_byte_byte.f k (y128.drop ((l0.length : Int) : Int).toNat) (([9, 9, 9, 9, 9, 9, 9, 9] : List Int))).bind fun t156 => (timesynclaw02_WireAppends.j0 k l0 y128 bt135.1 (!t156))) else (timesynclaw02_WireAppends.j0 k l0 y128 bt135.1 true))) else (timesynclaw02_WireAppends.j0 k l0 y128 bt135.1 true))) else (timesynclaw02_WireAppends.j0 k l0 y128 bt135.1 true)))) else (none)) else (none))) else (none))))) = some r := h
  clear h
  by_cases c4 : (l0.length : Int) > 5000
  · rw [if_pos c4] at H
    have c4b0 : decide (5000 < (l0.length : Int)) = true := decide_eq_true c4
    have c4b1 : decide (5000 < l0.length) = true := decide_eq_true (by omega)
    clear c4
    replace H := Option.bind_eq_some_iff.mp H
    obtain ⟨t121, A50, H⟩ := H
    replace H : (if t121 = true then (some true) else (none)) = some r := H
    have A5 := Aside0.mk A50
    clear A50
    by_cases c6 : t121 = true
    · subst c6
      have H1 : (some true) = some r := by rw [if_pos rfl] at H; exact H
      clear H
      have H := H1
      clear H1
      obtain rfl := Option.some.inj H
      go_enter Try.func5, Try.ntmps5
      go_wp2_with (first | ((with_reducible refine gate_callee (f := 13) rfl ?_); refine goesL_ (some 16) rfl rfl Try.func13 (by kernel_rfl) rfl #[] rfl (by (try simp only [List.map_toArray, List.map_cons, List.map_nil]); first | done | rfl | (simp only [List.length_drop, List.length_take]; rfl)) ?_; (with_reducible refine (timesynclaw02_awake.calls  true _ A5.out).mono ?_); rintro e w7 ⟨rfl, hb⟩; refine ⟨_, rfl, ?_⟩; have n0_ := Aside0.mk (below_step (by repeat (first | (with_reducible first | exact HB.out | apply below_alloc | apply pw_below_drewN | apply below_drew1) | exact HB.out)) hb); clear HB; have HB := n0_; clear n0_; (try clear hb); (try clear hb2); (try clear hk); (try clear hi)))
      go_ret
      exact ⟨by first | rfl | (simp [errW_none, errW_some] <;> rfl) | (simp [*, errW_none, errW_some] <;> rfl), by repeat (first | (with_reducible first | exact HB.out | apply below_alloc | apply pw_below_drewN | apply below_drew1) | exact HB.out)⟩
    · replace c6 := Bool.eq_false_iff.mpr c6
      subst c6
      have H1 : (none) = some r := by rw [if_neg (show ¬ (false = true) by decide)] at H; exact H
      clear H
      have H := H1
      clear H1
      exact absurd H (by simp)
  · rw [if_neg c4] at H
    have c4b0 : decide (5000 < (l0.length : Int)) = false := decide_eq_false c4
    have c4b1 : decide (5000 < l0.length) = false := decide_eq_false (by omega)
    clear c4
    replace H := Option.bind_eq_some_iff.mp H
    obtain ⟨t122, A80, H⟩ := H
    replace H : ((some (([9, 9, 9, 9, 9, 9, 9, 9] : List Int) : List Int)).bind fun y125 => (if t122.length + y125.length < 140737488355328 then ((some (t122 ++ y125 : List Int)).bind fun y128 => (if 0 ≤ (l0.length : Int) then (if (l0.length : Int) ≤ (y128.length : Int) then ((wire_Append.f (y128.take ((l0.length : Int) : Int).toNat) a1 a2).bind fun bt135 => ((timesyncref02_Append.f k l0 a1 a2).bind fun bt139 => (if bt135.2 = bt139.2 then ((slices_Equal_byte_byte.f k bt135.1 bt139.1).bind fun t143 => (if t143 = true then ((slices_Equal_byte_byte.f k (y128.take ((l0.length : Int) : Int).toNat) l0).bind fun t148 => (if t148 = true then ((slices_Equal_byte_byte.f k (y128.drop ((l0.length : Int) : Int).toNat) (([9, 9, 9, 9, 9, 9, 9, 9] : List Int))).bind fun t156 => (timesynclaw02_WireAppends.j0 k l0 y128 bt135.1 (!t156))) else (timesynclaw02_WireAppends.j0 k l0 y128 bt135.1 true))) else (timesynclaw02_WireAppends.j0 k l0 y128 bt135.1 true))) else (timesynclaw02_WireAppends.j0 k l0 y128 bt135.1 true)))) else (none)) else (none))) else (none))) = some r := H
    have A8 := Aside0.mk A80
    clear A80
    obtain ⟨y125, hy125⟩ : ∃ y_ : List Int, y_ = (([9, 9, 9, 9, 9, 9, 9, 9] : List Int)) := ⟨_, rfl⟩
    replace H : (if t122.length + y125.length < 140737488355328 then ((some (t122 ++ y125 : List Int)).bind fun y128 => (if 0 ≤ (l0.length : Int) then (if (l0.length : Int) ≤ (y128.length : Int) then ((wire_Append.f (y128.take ((l0.length : Int) : Int).toNat) a1 a2).bind fun bt135 => ((timesyncref02_Append.f k l0 a1 a2).bind fun bt139 => (if bt135.2 = bt139.2 then ((slices_Equal_byte_byte.f k bt135.1 bt139.1).bind fun t143 => (if t143 = true then ((slices_Equal_byte_byte.f k (y128.take ((l0.length : Int) : Int).toNat) l0).bind fun t148 => (if t148 = true then ((slices_Equal_byte_byte.f k (y128.drop ((l0.length : Int) : Int).toNat) (([9, 9, 9, 9, 9, 9, 9, 9] : List Int))).bind fun t156 => (timesynclaw02_WireAppends.j0 k l0 y128 bt135.1 (!t156))) else (timesynclaw02_WireAppends.j0 k l0 y128 bt135.1 true))) else (timesynclaw02_WireAppends.j0 k l0 y128 bt135.1 true))) else (timesynclaw02_WireAppends.j0 k l0 y128 bt135.1 true)))) else (none)) else (none))) else (none)) = some r := by first | (rw [hy125]; with_reducible exact H) | (have H2_ := (Option.bind_some _ _).symm.trans H; rw [hy125]; with_reducible exact H2_) | (have H2_ := (Option.bind_some _ _).symm.trans H; with_reducible exact H2_) | with_reducible exact H | (rw [hy125]; exact H) | exact H
    have Ny125 := Aside0.mk hy125
    clear hy125
    by_cases c9 : t122.length + y125.length < 140737488355328
    · rw [if_pos c9] at H
      have LMc9 := Aside0.mk c9
      clear c9
      obtain ⟨y128, hy128⟩ : ∃ y_ : List Int, y_ = (t122 ++ y125) := ⟨_, rfl⟩
      replace H : (if 0 ≤ (l0.length : Int) then (if (l0.length : Int) ≤ (y128.length : Int) then ((wire_Append.f (y128.take ((l0.length : Int) : Int).toNat) a1 a2).bind fun bt135 => ((timesyncref02_Append.f k l0 a1 a2).bind fun bt139 => (if bt135.2 = bt139.2 then ((slices_Equal_byte_byte.f k bt135.1 bt139.1).bind fun t143 => (if t143 = true then ((slices_Equal_byte_byte.f k (y128.take ((l0.length : Int) : Int).toNat) l0).bind fun t148 => (if t148 = true then ((slices_Equal_byte_byte.f k (y128.drop ((l0.length : Int) : Int).toNat) (([9, 9, 9, 9, 9, 9, 9, 9] : List Int))).bind fun t156 => (timesynclaw02_WireAppends.j0 k l0 y128 bt135.1 (!t156))) else (timesynclaw02_WireAppends.j0 k l0 y128 bt135.1 true))) else (timesynclaw02_WireAppends.j0 k l0 y128 bt135.1 true))) else (timesynclaw02_WireAppends.j0 k l0 y128 bt135.1 true)))) else (none)) else (none)) = some r := by first | (rw [hy128]; with_reducible exact H) | (have H2_ := (Option.bind_some _ _).symm.trans H; rw [hy128]; with_reducible exact H2_) | (have H2_ := (Option.bind_some _ _).symm.trans H; with_reducible exact H2_) | with_reducible exact H | (rw [hy128]; exact H) | exact H
      have Ny128 := Aside0.mk hy128
      clear hy128
      by_cases c10 : 0 ≤ (l0.length : Int)
      · rw [if_pos c10] at H
        have c10b0 := eq_true c10
        have c10b1 : decide (0 ≤ (l0.length : Int)) = true := decide_eq_true c10
        clear c10
        by_cases c11 : (l0.length : Int) ≤ (y128.length : Int)
        · rw [if_pos c11] at H
          have c11b0 := eq_true c11
          have c11b1 : decide ((l0.length : Int) ≤ (y128.length : Int)) = true := decide_eq_true c11
          clear c11
          obtain ⟨y131, hy131⟩ : ∃ y_ : List Int, y_ = (y128.take ((l0.length : Int) : Int).toNat) := ⟨_, rfl⟩
          replace H : ((wire_Append.f y131 a1 a2).bind fun bt135 => ((timesyncref02_Append.f k l0 a1 a2).bind fun bt139 => (if bt135.2 = bt139.2 then ((slices_Equal_byte_byte.f k bt135.1 bt139.1).bind fun t143 => (if t143 = true then ((slices_Equal_byte_byte.f k (y128.take ((l0.length : Int) : Int).toNat) l0).bind fun t148 => (if t148 = true then ((slices_Equal_byte_byte.f k (y128.drop ((l0.length : Int) : Int).toNat) (([9, 9, 9, 9, 9, 9, 9, 9] : List Int))).bind fun t156 => (timesynclaw02_WireAppends.j0 k l0 y128 bt135.1 (!t156))) else (timesynclaw02_WireAppends.j0 k l0 y128 bt135.1 true))) else (timesynclaw02_WireAppends.j0 k l0 y128 bt135.1 true))) else (timesynclaw02_WireAppends.j0 k l0 y128 bt135.1 true)))) = some r := by first | (rw [hy131]; with_reducible exact H) | (have H2_ := (Option.bind_some _ _).symm.trans H; rw [hy131]; with_reducible exact H2_) | (have H2_ := (Option.bind_some _ _).symm.trans H; with_reducible exact H2_) | with_reducible exact H | (rw [hy131]; exact H) | exact H
          have Ny131 := Aside0.mk hy131
          clear hy131
          replace H := Option.bind_eq_some_iff.mp H
          obtain ⟨⟨t135, t136⟩, A120, H⟩ := H
          replace H : ((timesyncref02_Append.f k l0 a1 a2).bind fun bt139 => (if t136 = bt139.2 then ((slices_Equal_byte_byte.f k t135 bt139.1).bind fun t143 => (if t143 = true then ((slices_Equal_byte_byte.f k (y128.take ((l0.length : Int) : Int).toNat) l0).bind fun t148 => (if t148 = true then ((slices_Equal_byte_byte.f k (y128.drop ((l0.length : Int) : Int).toNat) (([9, 9, 9, 9, 9, 9, 9, 9] : List Int))).bind fun t156 => (timesynclaw02_WireAppends.j0 k l0 y128 t135 (!t156))) else (timesynclaw02_WireAppends.j0 k l0 y128 t135 true))) else (timesynclaw02_WireAppends.j0 k l0 y128 t135 true))) else (timesynclaw02_WireAppends.j0 k l0 y128 t135 true))) = some r := H
          have A12 := Aside0.mk A120
          clear A120
          replace H := Option.bind_eq_some_iff.mp H
          obtain ⟨⟨t139, t140⟩, A130, H⟩ := H
          replace H : (if t136 = t140 then ((slices_Equal_byte_byte.f k t135 t139).bind fun t143 => (if t143 = true then ((slices_Equal_byte_byte.f k (y128.take ((l0.length : Int) : Int).toNat) l0).bind fun t148 => (if t148 = true then ((slices_Equal_byte_byte.f k (y128.drop ((l0.length : Int) : Int).toNat) (([9, 9, 9, 9, 9, 9, 9, 9] : List Int))).bind fun t156 => (timesynclaw02_WireAppends.j0 k l0 y128 t135 (!t156))) else (timesynclaw02_WireAppends.j0 k l0 y128 t135 true))) else (timesynclaw02_WireAppends.j0 k l0 y128 t135 true))) else (timesynclaw02_WireAppends.j0 k l0 y128 t135 true)) = some r := H
          have A13 := Aside0.mk A130
          clear A130
          have HC14 := Aside0.mk H
          clear H
          go_enter Try.func5, Try.ntmps5
          go_upto_region 6 with (first | ((with_reducible refine gate_callee (f := 20) rfl ?_); refine goesL_ (some 18) rfl rfl Try.func20 (by kernel_rfl) rfl #[.slice A0 l0.length c0] rfl (by (try simp only [List.map_toArray, List.map_cons, List.map_nil]); first | done | rfl | (simp only [List.length_drop, List.length_take]; rfl)) ?_; (with_reducible refine (slices_Clone_byte_byte.calls _ _ l0 t122 _ ?side1 ?side2 A8.out).mono ?_); (case side1 => repeat (first | exact HR0.out | (with_reducible refine Kd.C_alloc ?_ _) | (with_reducible refine Kd.C_drewN ?_ _) | (with_reducible refine Kd.C_drew ?_))); (case side2 => exact HC0.out); rintro e w15 ⟨v123, rfl, ho0, hb⟩; refine ⟨_, rfl, ?_⟩; have n0_ := Aside0.mk (Kd.R_lower ho0 (below_size (by repeat (first | (with_reducible first | exact HB.out | apply below_alloc | apply pw_below_drewN | apply below_drew1) | exact HB.out)))); have n1_ := Aside0.mk (below_step (by repeat (first | (with_reducible first | exact HB.out | apply below_alloc | apply pw_below_drewN | apply below_drew1) | exact HB.out)) hb); clear HB; have HO124 := n0_; have HB := n1_; clear n0_ n1_; (try clear hb); (try clear hb2); (try clear hk); (try clear hi); (try clear ho0)) | ((with_reducible refine gate_dst (N := 19) rfl ?_); (try (refine gate_guard (by rfl) ?_; dsimp only)); refine Kd.R_lit (Kd.int .u8) _ 5 ?hg (N := 19) ?hd (xs := ([9, 9, 9, 9, 9, 9, 9, 9] : List Int)) (inner := [.int .u8 9, .int .u8 9, .int .u8 9, .int .u8 9, .int .u8 9, .int .u8 9, .int .u8 9, .int .u8 9]) (ok := fun _ => True) (okp := fun _ => True) ?hr ?hp (fun _ hk => hk) trivial (Below.refl _ _) (Nat.le_refl _) (by simp) ?_; (case hd => rfl); (case hg => rfl); (case hr => first | (go_simp; done) | (go_simp; rfl)); (case hp => exact (Reps.one (show Kd.M (Kd.int .u8) _ _ _ 9 [.int .u8 9] from rfl) (Reps.one (show Kd.M (Kd.int .u8) _ _ _ 9 [.int .u8 9] from rfl) (Reps.one (show Kd.M (Kd.int .u8) _ _ _ 9 [.int .u8 9] from rfl) (Reps.one (show Kd.M (Kd.int .u8) _ _ _ 9 [.int .u8 9] from rfl) (Reps.one (show Kd.M (Kd.int .u8) _ _ _ 9 [.int .u8 9] from rfl) (Reps.one (show Kd.M (Kd.int .u8) _ _ _ 9 [.int .u8 9] from rfl) (Reps.one (show Kd.M (Kd.int .u8) _ _ _ 9 [.int .u8 9] from rfl) (Reps.one (show Kd.M (Kd.int .u8) _ _ _ 9 [.int .u8 9] from rfl) (Reps.none _ _)))))))))); intro v126 w16 ho17 hb hg_ hnew_; clear hg_ hnew_; (first | rw [← Ny125.out] at ho17 | (simp only [Int.reduceToNat] at ho17; rw [← Ny125.out] at ho17)); have n0_ := Aside0.mk (Kd.R_elder' (by (with_reducible repeat (first | apply Kd.R_alloc | apply Kd.R_drewN | apply Kd.R_drew)); exact HO124.out) (Kd.R_base ho17) hb); have n1_ := Aside0.mk (Kd.R_lower (Kd.R_new' ho17 (Kd.R_lt (by (with_reducible repeat (first | apply Kd.R_alloc | apply Kd.R_drewN | apply Kd.R_drew)); exact HO124.out))) (below_size (by repeat (first | (with_reducible first | exact HB.out | apply below_alloc | apply pw_below_drewN | apply below_drew1) | exact HB.out)))); have n2_ := Aside0.mk (below_step (by repeat (first | (with_reducible first | exact HB.out | apply below_alloc | apply pw_below_drewN | apply below_drew1) | exact HB.out)) hb); clear HO124; clear HB; have HO124 := n0_; have HO127 := n1_; have HB := n2_; clear n0_ n1_ n2_; clear hb ho17; obtain ⟨Ao19, co19, eo19⟩ := Kd.R_slice HO127.out; subst eo19) | ((with_reducible refine gate_builtin (b := .append) (xs := #[.tmp 18, .tmp 19]) rfl ?_); (try (refine gate_guard (by rfl) ?_; dsimp only)); at_builtin; refine Kd.R_append_rows (Kd.int .u8) (w0 := w) w.heap.size rfl (.tmp 18) (.tmp 19) 22 5 (.int .u8 0) 1 rfl Try.underlying22 info5 rfl (by decide) (by omega) v123 t122 y125 _ _ _ (fun k_ => some k_ ≠ (.slice Ao19 y125.length co19 : Value).ownBlock) (fun _ => False) rfl rfl ?aO ?aR (fun _ _ h => h) (fun _ h => h.elim) ?aF ?aB ?aS ?aL ?_; (case aR => repeat (first | exact (Kd.R_reads' HO127.out).2.2 | (with_reducible refine Kd.C_alloc ?_ _) | (with_reducible refine Kd.C_drewN ?_ _) | (with_reducible refine Kd.C_drew ?_))); (case aB => exact (by repeat (first | (with_reducible first | exact HB.out | apply below_alloc | apply pw_below_drewN | apply below_drew1) | exact HB.out))); (case aF => exact (fun k_ hk => Kd.fresh' (Kd.R_lt (by (with_reducible repeat (first | apply Kd.R_alloc | apply Kd.R_drewN | apply Kd.R_drew)); exact HO127.out)) k_ hk)); (case aO => exact (by (with_reducible repeat (first | apply Kd.R_alloc | apply Kd.R_drewN | apply Kd.R_drew)); exact Kd.R_mono HO124.out (fun _ hk => hk.2))); (case aS => exact (below_size (by repeat (first | (with_reducible first | exact HB.out | apply below_alloc | apply pw_below_drewN | apply below_drew1) | exact HB.out)))); (case aL => have := LMc9.out; omega); intro v129 w18 ho hb hg hat; rw [← Ny128.out] at ho; have n0_ := Aside0.mk (Kd.R_after (ok := (fun _ => True)) (by (with_reducible repeat (first | apply Kd.R_alloc | apply Kd.R_drewN | apply Kd.R_drew)); exact HO127.out) hg hat); have n1_ := Aside0.mk (hb); have n2_ := Aside0.mk (ho); clear HO127; clear HB; clear HO124; have HO127 := n0_; have HB := n1_; have HO130 := n2_; clear n0_ n1_ n2_; clear ho hb hg hat; obtain ⟨Ao21, co21, eo21⟩ := Kd.R_slice HO130.out; subst eo21; have q20 : ((l0.length : Int) : Int) ≤ ((y128.length : Int) : Int) := of_decide_eq_true (by first | (with_reducible assumption) | assumption); obtain ⟨i020, hi020, _, hsz20, _⟩ := info_parts info5; have hroom20 : y128.length ≤ co21 := (Kd.R_reads' HO130.out).2.1; have hC20 : Kd.C (Kd.int .u8) _ Ao21 y128.length y128 := (Kd.R_reads' HO130.out).2.2; have hcut20 := cut_to (P := Try.prog) 22 5 .i64 Try.underlying22 hi020 Ao21 y128.length co21 (l0.length : Int) (of_decide_eq_true (by first | (with_reducible assumption) | assumption)) q20 hroom20; have hr20 := Kd.C_take (m := ((l0.length : Int) : Int).toNat) hC20 (by omega); have hy20 : y131.length = ((l0.length : Int) : Int).toNat := (by rw [Ny131.out, List.length_take]; omega); rw [← Ny131.out] at hr20; rw [← hy20] at hcut20; have HR134 := Aside0.mk hr20; have HC134 := Aside0.mk (show y131.length ≤ co21 from by omega); clear hr20 hC20 hroom20 hi020 hsz20; have KY20 := Aside0.mk hy20; clear hy20; have KL20 := Aside0.mk (show ((l0.length : Int) : Int).toNat ≤ y128.length from by omega); replace q20 := eq_true q20) | ((with_reducible refine gate_callee (f := 14) rfl ?_); refine goesL_ (some 28) rfl rfl Try.func14 (by kernel_rfl) rfl #[.slice Ao21 y131.length co21, .int .u64 a1, .int .i64 a2] rfl (by (try simp only [List.map_toArray, List.map_cons, List.map_nil]); first | done | rfl | (simp only [List.length_drop, List.length_take]; rfl)) ?_; (with_reducible refine (wire_Append.calls _ _ y131 a1 a2 t135 t136 _ ?side1 ?side2 A12.out).mono ?_); (case side1 => repeat (first | exact (by repeat (first | (with_reducible exact HR134.out) | (with_reducible refine Kd.C_alloc ?_ _) | (with_reducible refine Kd.C_drewN ?_ _) | (with_reducible refine Kd.C_drew ?_) | exact HR134.out)) | (with_reducible refine Kd.C_alloc ?_ _) | (with_reducible refine Kd.C_drewN ?_ _) | (with_reducible refine Kd.C_drew ?_))); (case side2 => exact HC134.out); rintro e w22 ⟨v137, rfl, ho0, hb⟩; refine ⟨_, rfl, ?_⟩; have n0_ := Aside0.mk (Kd.R_elder' (by (with_reducible repeat (first | apply Kd.R_alloc | apply Kd.R_drewN | apply Kd.R_drew)); exact HO127.out) (Kd.R_base ho0) hb); have n1_ := Aside0.mk (Kd.R_elder' (by (with_reducible repeat (first | apply Kd.R_alloc | apply Kd.R_drewN | apply Kd.R_drew)); exact HO130.out) (Kd.R_base ho0) hb); have n2_ := Aside0.mk (Kd.R_lower (Kd.R_new' (Kd.R_new' ho0 (Kd.R_lt (by (with_reducible repeat (first | apply Kd.R_alloc | apply Kd.R_drewN | apply Kd.R_drew)); exact HO127.out))) (Kd.R_lt (by (with_reducible repeat (first | apply Kd.R_alloc | apply Kd.R_drewN | apply Kd.R_drew)); exact HO130.out))) (below_size (by repeat (first | (with_reducible first | exact HB.out | apply below_alloc | apply pw_below_drewN | apply below_drew1) | exact HB.out)))); have n3_ := Aside0.mk (Kd.C_below (by repeat (first | (with_reducible exact HR134.out) | (with_reducible refine Kd.C_alloc ?_ _) | (with_reducible refine Kd.C_drewN ?_ _) | (with_reducible refine Kd.C_drew ?_) | exact HR134.out)) hb); have n4_ := Aside0.mk (below_step (by repeat (first | (with_reducible first | exact HB.out | apply below_alloc | apply pw_below_drewN | apply below_drew1) | exact HB.out)) hb); clear HO127; clear HO130; clear HR134; clear HB; have HO127 := n0_; have HO130 := n1_; have HO138 := n2_; have HR134 := n3_; have HB := n4_; clear n0_ n1_ n2_ n3_ n4_; (try clear hb); (try clear hb2); (try clear hk); (try clear hi); (try clear ho0)) | ((with_reducible refine gate_callee (f := 21) rfl ?_); refine goesL_ (some 35) rfl rfl Try.func21 (by kernel_rfl) rfl #[.slice A0 l0.length c0, .int .u64 a1, .int .i64 a2] rfl (by (try simp only [List.map_toArray, List.map_cons, List.map_nil]); first | done | rfl | (simp only [List.length_drop, List.length_take]; rfl)) ?_; (with_reducible refine (timesyncref02_Append.calls k _ _ l0 a1 a2 t139 t140 _ ?side1 ?side2 A13.out).mono ?_); (case side1 => repeat (first | exact (Kd.C_below HR0.out HB.out) | (with_reducible refine Kd.C_alloc ?_ _) | (with_reducible refine Kd.C_drewN ?_ _) | (with_reducible refine Kd.C_drew ?_))); (case side2 => exact HC0.out); rintro e w23 ⟨v141, rfl, ho0, hb⟩; refine ⟨_, rfl, ?_⟩; have n0_ := Aside0.mk (Kd.R_elder' (by (with_reducible repeat (first | apply Kd.R_alloc | apply Kd.R_drewN | apply Kd.R_drew)); exact HO127.out) (Kd.R_base ho0) hb); have n1_ := Aside0.mk (Kd.R_elder' (by (with_reducible repeat (first | apply Kd.R_alloc | apply Kd.R_drewN | apply Kd.R_drew)); exact HO130.out) (Kd.R_base ho0) hb); have n2_ := Aside0.mk (Kd.R_elder' (by (with_reducible repeat (first | apply Kd.R_alloc | apply Kd.R_drewN | apply Kd.R_drew)); exact HO138.out) (Kd.R_base ho0) hb); have n3_ := Aside0.mk (Kd.R_lower (Kd.R_new' (Kd.R_new' (Kd.R_new' ho0 (Kd.R_lt (by (with_reducible repeat (first | apply Kd.R_alloc | apply Kd.R_drewN | apply Kd.R_drew)); exact HO127.out))) (Kd.R_lt (by (with_reducible repeat (first | apply Kd.R_alloc | apply Kd.R_drewN | apply Kd.R_drew)); exact HO130.out))) (Kd.R_lt (by (with_reducible repeat (first | apply Kd.R_alloc | apply Kd.R_drewN | apply Kd.R_drew)); exact HO138.out))) (below_size (by repeat (first | (with_reducible first | exact HB.out | apply below_alloc | apply pw_below_drewN | apply below_drew1) | exact HB.out)))); have n4_ := Aside0.mk (Kd.C_below (by repeat (first | (with_reducible exact HR134.out) | (with_reducible refine Kd.C_alloc ?_ _) | (with_reducible refine Kd.C_drewN ?_ _) | (with_reducible refine Kd.C_drew ?_) | exact HR134.out)) hb); have n5_ := Aside0.mk (below_step (by repeat (first | (with_reducible first | exact HB.out | apply below_alloc | apply pw_below_drewN | apply below_drew1) | exact HB.out)) hb); clear HO127; clear HO130; clear HO138; clear HR134; clear HB; have HO127 := n0_; have HO130 := n1_; have HO138 := n2_; have HO142 := n3_; have HR134 := n4_; have HB := n5_; clear n0_ n1_ n2_ n3_ n4_ n5_; (try clear hb); (try clear hb2); (try clear hk); (try clear hi); (try clear ho0)))
          (try simp only [Act.put, List.setIfInBounds_toArray, List.set_cons_zero, List.set_cons_succ])
          go_cut [64] (fun v64 wc => ∃ (kq : Nat) (x64_13 : Bool), v64 = .bool x64_13 ∧ Aside0 (timesynclaw02_WireAppends.j0 kq l0 y128 t135 x64_13 = some r) ∧ Aside0 (kq ≤ k) ∧ Aside0 (Kd.R (Kd.int .u8) 5 wc w.heap.size (fun k_ => some k_ ≠ (v137 : Value).ownBlock) (.slice Ao21 y128.length co21) y128) ∧ Aside0 (Kd.R (Kd.int .u8) 5 wc w.heap.size (fun k_ => some k_ ≠ ((.slice Ao21 y128.length co21) : Value).ownBlock) v137 t135) ∧ Aside0 (Kd.C (Kd.int .u8) wc Ao21 y131.length y131) ∧ Aside0 (Below w.heap.size w wc))
          case first =>
            have H := HC14.out
            clear HC14
            by_cases c24 : t136 = t140
            · rw [if_pos c24] at H
              have c24b0 : (t136 == t140) = true := beq_iff_eq.mpr c24
              have c24b1 : (t136 != t140) = false := bne_eq_false_iff_eq.mpr c24
              clear c24
              (first | rw [c24b0] | (simp only [i64_w, i32_w]; rw [c24b0]) | skip)
              replace H := Option.bind_eq_some_iff.mp H
              obtain ⟨t143, A250, H⟩ := H
              replace H : (if t143 = true then ((slices_Equal_byte_byte.f k (y128.take ((l0.length : Int) : Int).toNat) l0).bind fun t148 => (if t148 = true then ((slices_Equal_byte_byte.f k (y128.drop ((l0.length : Int) : Int).toNat) (([9, 9, 9, 9, 9, 9, 9, 9] : List Int))).bind fun t156 => (timesynclaw02_WireAppends.j0 k l0 y128 t135 (!t156))) else (timesynclaw02_WireAppends.j0 k l0 y128 t135 true))) else (timesynclaw02_WireAppends.j0 k l0 y128 t135 true)) = some r := H
              have A25 := Aside0.mk A250
              clear A250
              by_cases c26 : t143 = true
              · subst c26
                have H1 : ((slices_Equal_byte_byte.f k (y128.take ((l0.length : Int) : Int).toNat) l0).bind fun t148 => (if t148 = true then ((slices_Equal_byte_byte.f k (y128.drop ((l0.length : Int) : Int).toNat) (([9, 9, 9, 9, 9, 9, 9, 9] : List Int))).bind fun t156 => (timesynclaw02_WireAppends.j0 k l0 y128 t135 (!t156))) else (timesynclaw02_WireAppends.j0 k l0 y128 t135 true))) = some r := by rw [if_pos rfl] at H; exact H
                clear H
                have H := H1
                clear H1
                have c27b0 := eq_true (of_decide_eq_true (by first | (with_reducible assumption) | assumption) : 0 ≤ (l0.length : Int))
                have c28b0 := eq_true (of_decide_eq_true (by first | (with_reducible assumption) | assumption) : (l0.length : Int) ≤ (y128.length : Int))
                obtain ⟨y144, hy144⟩ : ∃ y_ : List Int, y_ = (y128.take ((l0.length : Int) : Int).toNat) := ⟨_, rfl⟩
                replace H : ((slices_Equal_byte_byte.f k y144 l0).bind fun t148 => (if t148 = true then ((slices_Equal_byte_byte.f k (y128.drop ((l0.length : Int) : Int).toNat) (([9, 9, 9, 9, 9, 9, 9, 9] : List Int))).bind fun t156 => (timesynclaw02_WireAppends.j0 k l0 y128 t135 (!t156))) else (timesynclaw02_WireAppends.j0 k l0 y128 t135 true))) = some r := by first | (rw [hy144]; with_reducible exact H) | (have H2_ := (Option.bind_some _ _).symm.trans H; rw [hy144]; with_reducible exact H2_) | (have H2_ := (Option.bind_some _ _).symm.trans H; with_reducible exact H2_) | with_reducible exact H | (rw [hy144]; exact H) | exact H
                have Ny144 := Aside0.mk hy144
                clear hy144
                replace H := Option.bind_eq_some_iff.mp H
                obtain ⟨t148, A290, H⟩ := H
                replace H : (if t148 = true then ((slices_Equal_byte_byte.f k (y128.drop ((l0.length : Int) : Int).toNat) (([9, 9, 9, 9, 9, 9, 9, 9] : List Int))).bind fun t156 => (timesynclaw02_WireAppends.j0 k l0 y128 t135 (!t156))) else (timesynclaw02_WireAppends.j0 k l0 y128 t135 true)) = some r := H
                have A29 := Aside0.mk A290
                clear A290
                by_cases c30 : t148 = true
                · subst c30
                  have H1 : ((slices_Equal_byte_byte.f k (y128.drop ((l0.length : Int) : Int).toNat) (([9, 9, 9, 9, 9, 9, 9, 9] : List Int))).bind fun t156 => (timesynclaw02_WireAppends.j0 k l0 y128 t135 (!t156))) = some r := by rw [if_pos rfl] at H; exact H
                  clear H
                  have H := H1
                  clear H1
                  have c31b0 := eq_true (of_decide_eq_true (by first | (with_reducible assumption) | assumption) : 0 ≤ (l0.length : Int))
                  have c32b0 := eq_true (of_decide_eq_true (by first | (with_reducible assumption) | assumption) : (l0.length : Int) ≤ (y128.length : Int))
                  obtain ⟨y149, hy149⟩ : ∃ y_ : List Int, y_ = (y128.drop ((l0.length : Int) : Int).toNat) := ⟨_, rfl⟩
                  replace H : ((slices_Equal_byte_byte.f k y149 (([9, 9, 9, 9, 9, 9, 9, 9] : List Int))).bind fun t156 => (timesynclaw02_WireAppends.j0 k l0 y128 t135 (!t156))) = some r := by first | (rw [hy149]; with_reducible exact H) | (have H2_ := (Option.bind_some _ _).symm.trans H; rw [hy149]; with_reducible exact H2_) | (have H2_ := (Option.bind_some _ _).symm.trans H; with_reducible exact H2_) | with_reducible exact H | (rw [hy149]; exact H) | exact H
                  have Ny149 := Aside0.mk hy149
                  clear hy149
                  obtain ⟨y153, hy153⟩ : ∃ y_ : List Int, y_ = (([9, 9, 9, 9, 9, 9, 9, 9] : List Int)) := ⟨_, rfl⟩
                  replace H : ((slices_Equal_byte_byte.f k y149 y153).bind fun t156 => (timesynclaw02_WireAppends.j0 k l0 y128 t135 (!t156))) = some r := by first | (rw [hy153]; with_reducible exact H) | (have H2_ := (Option.bind_some _ _).symm.trans H; rw [hy153]; with_reducible exact H2_) | (have H2_ := (Option.bind_some _ _).symm.trans H; with_reducible exact H2_) | with_reducible exact H | (rw [hy153]; exact H) | exact H
                  have Ny153 := Aside0.mk hy153
                  clear hy153
                  replace H := Option.bind_eq_some_iff.mp H
                  obtain ⟨t156, A330, H⟩ := H
                  replace H : (timesynclaw02_WireAppends.j0 k l0 y128 t135 (!t156)) = some r := H
                  have A33 := Aside0.mk A330
                  clear A330
                  have H' := Aside0.mk H
                  clear H
                  obtain ⟨Ao34, co34, eo34⟩ := Kd.R_slice HO138.out
                  subst eo34
                  obtain ⟨Ao35, co35, eo35⟩ := Kd.R_slice HO142.out
                  subst eo35
                  (try clear hcut20)
                  go_wp2_with (first | (go_at_call 22; (with_reducible refine (slices_Equal_byte_byte.calls k _ _ t135 _ _ t139 true _ ?side1 ?side2 ?side3 ?side4 A25.out).mono ?_); (case side1 => repeat (first | exact (Kd.R_reads' HO138.out).2.2 | (with_reducible refine Kd.C_alloc ?_ _) | (with_reducible refine Kd.C_drewN ?_ _) | (with_reducible refine Kd.C_drew ?_))); (case side2 => exact (Kd.R_reads' HO138.out).2.1); (case side3 => repeat (first | exact (Kd.R_reads' HO142.out).2.2 | (with_reducible refine Kd.C_alloc ?_ _) | (with_reducible refine Kd.C_drewN ?_ _) | (with_reducible refine Kd.C_drew ?_))); (case side4 => exact (Kd.R_reads' HO142.out).2.1); rintro e w' ⟨rfl, ⟨nd, rfl⟩⟩; have q36 : ((l0.length : Int) : Int) ≤ ((y128.length : Int) : Int) := of_decide_eq_true (by first | (with_reducible assumption) | assumption); obtain ⟨i036, hi036, _, hsz36, _⟩ := info_parts info5; have hroom36 : y128.length ≤ co21 := (Kd.R_reads' HO130.out).2.1; have hC36 : Kd.C (Kd.int .u8) _ Ao21 y128.length y128 := (Kd.R_reads' HO130.out).2.2; have hcut36 := cut_to (P := Try.prog) 22 5 .i64 Try.underlying22 hi036 Ao21 y128.length co21 (l0.length : Int) (of_decide_eq_true (by first | (with_reducible assumption) | assumption)) q36 hroom36; have hr36 := Kd.C_take (m := ((l0.length : Int) : Int).toNat) hC36 (by omega); have hy36 : y144.length = ((l0.length : Int) : Int).toNat := (by rw [Ny144.out, List.length_take]; omega); rw [← Ny144.out] at hr36; rw [← hy36] at hcut36; have HR147 := Aside0.mk hr36; have HC147 := Aside0.mk (show y144.length ≤ co21 from by omega); clear hr36 hC36 hroom36 hi036 hsz36; have KY36 := Aside0.mk hy36; clear hy36; have KL36 := Aside0.mk (show ((l0.length : Int) : Int).toNat ≤ y128.length from by omega); replace q36 := eq_true q36) | (go_at_call 22; (with_reducible refine (slices_Equal_byte_byte.calls k _ _ y144 _ _ l0 true _ ?side1 ?side2 ?side3 ?side4 A29.out).mono ?_); (case side1 => repeat (first | exact (by repeat (first | (with_reducible exact HR147.out) | (with_reducible refine Kd.C_alloc ?_ _) | (with_reducible refine Kd.C_drewN ?_ _) | (with_reducible refine Kd.C_drew ?_) | exact HR147.out)) | (with_reducible refine Kd.C_alloc ?_ _) | (with_reducible refine Kd.C_drewN ?_ _) | (with_reducible refine Kd.C_drew ?_))); (case side2 => exact HC147.out); (case side3 => repeat (first | exact (Kd.C_below HR0.out (by repeat (first | (with_reducible first | exact HB.out | apply below_alloc | apply pw_below_drewN | apply below_drew1) | exact HB.out))) | (with_reducible refine Kd.C_alloc ?_ _) | (with_reducible refine Kd.C_drewN ?_ _) | (with_reducible refine Kd.C_drew ?_))); (case side4 => exact HC0.out); rintro e w' ⟨rfl, ⟨nd, rfl⟩⟩; have q37 : ((l0.length : Int) : Int) ≤ ((y128.length : Int) : Int) := of_decide_eq_true (by first | (with_reducible assumption) | assumption); obtain ⟨i037, hi037, _, hsz37, _⟩ := info_parts info5; have hroom37 : y128.length ≤ co21 := (Kd.R_reads' HO130.out).2.1; have hC37 : Kd.C (Kd.int .u8) _ Ao21 y128.length y128 := (Kd.R_reads' HO130.out).2.2; have q037 : (0 : Int) ≤ ((l0.length : Int) : Int) := of_decide_eq_true (by first | (with_reducible assumption) | assumption); have hcut37 := cut_from (P := Try.prog) 22 5 .i64 Try.underlying22 hi037 1 hsz37 Ao21 y128.length co21 (l0.length : Int) q037 q37; have hr37 := Kd.C_drop (m := ((l0.length : Int) : Int).toNat) (c := co21) hC37 (by omega) hroom37; obtain ⟨A37, hA37⟩ : ∃ A1, A1 = (if co21 = ((l0.length : Int) : Int).toNat then Ao21 else (Ao21 : Option Addr).map (·.add (((l0.length : Int) : Int).toNat * 1))) := ⟨_, rfl⟩; obtain ⟨c37, hc37⟩ : ∃ c1, c1 = co21 - ((l0.length : Int) : Int).toNat := ⟨_, rfl⟩; have hy37 : y149.length = y128.length - ((l0.length : Int) : Int).toNat := (by rw [Ny149.out, List.length_drop] <;> omega); rw [show (y128).drop ((l0.length : Int) : Int).toNat = y149 from Ny149.out.symm] at hr37; replace hr37 : Kd.C (Kd.int .u8) _ A37 y149.length y149 := (by rw [hA37]; exact hr37); rw [← hy37, ← hA37, ← hc37] at hcut37; have HR152 := Aside0.mk hr37; have HC152 := Aside0.mk (show y149.length ≤ c37 from by rw [hy37, hc37]; exact Nat.sub_le_sub_right hroom37 _); clear hr37 hC37 hroom37 hi037 hsz37 hc37; have KY37 := Aside0.mk hy37; have KA37 := Aside0.mk hA37; clear hy37 hA37; have KL37 := Aside0.mk (show ((l0.length : Int) : Int).toNat ≤ y128.length from by omega); replace q37 := eq_true q37) | ((with_reducible refine gate_dst (N := 61) rfl ?_); (try (refine gate_guard (by rfl) ?_; dsimp only)); refine Kd.R_lit (Kd.int .u8) _ 5 ?hg (N := 61) ?hd (xs := ([9, 9, 9, 9, 9, 9, 9, 9] : List Int)) (inner := [.int .u8 9, .int .u8 9, .int .u8 9, .int .u8 9, .int .u8 9, .int .u8 9, .int .u8 9, .int .u8 9]) (ok := fun _ => True) (okp := fun _ => True) ?hr ?hp (fun _ hk => hk) trivial (Below.refl _ _) (Nat.le_refl _) (by simp) ?_; (case hd => rfl); (case hg => rfl); (case hr => first | (go_simp; done) | (go_simp; rfl)); (case hp => exact (Reps.one (show Kd.M (Kd.int .u8) _ _ _ 9 [.int .u8 9] from rfl) (Reps.one (show Kd.M (Kd.int .u8) _ _ _ 9 [.int .u8 9] from rfl) (Reps.one (show Kd.M (Kd.int .u8) _ _ _ 9 [.int .u8 9] from rfl) (Reps.one (show Kd.M (Kd.int .u8) _ _ _ 9 [.int .u8 9] from rfl) (Reps.one (show Kd.M (Kd.int .u8) _ _ _ 9 [.int .u8 9] from rfl) (Reps.one (show Kd.M (Kd.int .u8) _ _ _ 9 [.int .u8 9] from rfl) (Reps.one (show Kd.M (Kd.int .u8) _ _ _ 9 [.int .u8 9] from rfl) (Reps.one (show Kd.M (Kd.int .u8) _ _ _ 9 [.int .u8 9] from rfl) (Reps.none _ _)))))))))); intro v154 w38 ho39 hb hg_ hnew_; clear hg_ hnew_; (first | rw [← Ny153.out] at ho39 | (simp only [Int.reduceToNat] at ho39; rw [← Ny153.out] at ho39)); have n0_ := Aside0.mk (Kd.R_elder' (by (with_reducible repeat (first | apply Kd.R_alloc | apply Kd.R_drewN | apply Kd.R_drew)); exact HO127.out) (Kd.R_base ho39) hb); have n1_ := Aside0.mk (Kd.R_elder' (by (with_reducible repeat (first | apply Kd.R_alloc | apply Kd.R_drewN | apply Kd.R_drew)); exact HO130.out) (Kd.R_base ho39) hb); have n2_ := Aside0.mk (Kd.R_elder' (by (with_reducible repeat (first | apply Kd.R_alloc | apply Kd.R_drewN | apply Kd.R_drew)); exact HO138.out) (Kd.R_base ho39) hb); have n3_ := Aside0.mk (Kd.R_elder' (by (with_reducible repeat (first | apply Kd.R_alloc | apply Kd.R_drewN | apply Kd.R_drew)); exact HO142.out) (Kd.R_base ho39) hb); have n4_ := Aside0.mk (Kd.R_lower (Kd.R_new' (Kd.R_new' (Kd.R_new' (Kd.R_new' ho39 (Kd.R_lt (by (with_reducible repeat (first | apply Kd.R_alloc | apply Kd.R_drewN | apply Kd.R_drew)); exact HO127.out))) (Kd.R_lt (by (with_reducible repeat (first | apply Kd.R_alloc | apply Kd.R_drewN | apply Kd.R_drew)); exact HO130.out))) (Kd.R_lt (by (with_reducible repeat (first | apply Kd.R_alloc | apply Kd.R_drewN | apply Kd.R_drew)); exact HO138.out))) (Kd.R_lt (by (with_reducible repeat (first | apply Kd.R_alloc | apply Kd.R_drewN | apply Kd.R_drew)); exact HO142.out))) (below_size (by repeat (first | (with_reducible first | exact HB.out | apply below_alloc | apply pw_below_drewN | apply below_drew1) | exact HB.out)))); have n5_ := Aside0.mk (Kd.C_below (by repeat (first | (with_reducible exact HR134.out) | (with_reducible refine Kd.C_alloc ?_ _) | (with_reducible refine Kd.C_drewN ?_ _) | (with_reducible refine Kd.C_drew ?_) | exact HR134.out)) hb); have n6_ := Aside0.mk (Kd.C_below (by repeat (first | (with_reducible exact HR147.out) | (with_reducible refine Kd.C_alloc ?_ _) | (with_reducible refine Kd.C_drewN ?_ _) | (with_reducible refine Kd.C_drew ?_) | exact HR147.out)) hb); have n7_ := Aside0.mk (Kd.C_below (by repeat (first | (with_reducible exact HR152.out) | (with_reducible refine Kd.C_alloc ?_ _) | (with_reducible refine Kd.C_drewN ?_ _) | (with_reducible refine Kd.C_drew ?_) | exact HR152.out)) hb); have n8_ := Aside0.mk (below_step (by repeat (first | (with_reducible first | exact HB.out | apply below_alloc | apply pw_below_drewN | apply below_drew1) | exact HB.out)) hb); clear HO127; clear HO130; clear HO138; clear HO142; clear HR134; clear HR147; clear HR152; clear HB; have HO127 := n0_; have HO130 := n1_; have HO138 := n2_; have HO142 := n3_; have HO155 := n4_; have HR134 := n5_; have HR147 := n6_; have HR152 := n7_; have HB := n8_; clear n0_ n1_ n2_ n3_ n4_ n5_ n6_ n7_ n8_; clear hb ho39; obtain ⟨Ao40, co40, eo40⟩ := Kd.R_slice HO155.out; subst eo40) | (go_at_call 22; (with_reducible refine (slices_Equal_byte_byte.calls k _ _ y149 _ _ y153 t156 _ ?side1 ?side2 ?side3 ?side4 A33.out).mono ?_); (case side1 => repeat (first | exact (by repeat (first | (with_reducible exact HR152.out) | (with_reducible refine Kd.C_alloc ?_ _) | (with_reducible refine Kd.C_drewN ?_ _) | (with_reducible refine Kd.C_drew ?_) | exact HR152.out)) | (with_reducible refine Kd.C_alloc ?_ _) | (with_reducible refine Kd.C_drewN ?_ _) | (with_reducible refine Kd.C_drew ?_))); (case side2 => exact HC152.out); (case side3 => repeat (first | exact (Kd.R_reads' HO155.out).2.2 | (with_reducible refine Kd.C_alloc ?_ _) | (with_reducible refine Kd.C_drewN ?_ _) | (with_reducible refine Kd.C_drew ?_))); (case side4 => exact (Kd.R_reads' HO155.out).2.1); rintro e w' ⟨rfl, ⟨nd, rfl⟩⟩))
                  go_meet
                  case rel => exact ⟨_, (!t156), (by first | rfl | (simp; done) | (simp [*]; done)), H', ⟨by first | omega | exact Nat.le_refl _⟩, ⟨by (with_reducible repeat (first | apply Kd.R_alloc | apply Kd.R_drewN | apply Kd.R_drew)); exact Kd.R_mono HO130.out (fun _ hk => hk.1.1.2)⟩, ⟨by (with_reducible repeat (first | apply Kd.R_alloc | apply Kd.R_drewN | apply Kd.R_drew)); exact Kd.R_mono HO138.out (fun _ hk => hk.1.1.2)⟩, ⟨by repeat (first | (with_reducible exact HR134.out) | (with_reducible refine Kd.C_alloc ?_ _) | (with_reducible refine Kd.C_drewN ?_ _) | (with_reducible refine Kd.C_drew ?_) | exact HR134.out)⟩, ⟨by repeat (first | (with_reducible first | exact HB.out | apply below_alloc | apply pw_below_drewN | apply below_drew1) | exact HB.out)⟩⟩
                · replace c30 := Bool.eq_false_iff.mpr c30
                  subst c30
                  have H1 : (timesynclaw02_WireAppends.j0 k l0 y128 t135 true) = some r := by rw [if_neg (show ¬ (false = true) by decide)] at H; exact H
                  clear H
                  have H := H1
                  clear H1
                  have H' := Aside0.mk H
                  clear H
                  obtain ⟨Ao41, co41, eo41⟩ := Kd.R_slice HO138.out
                  subst eo41
                  obtain ⟨Ao42, co42, eo42⟩ := Kd.R_slice HO142.out
                  subst eo42
                  (try clear hcut20)
                  (try clear hcut36)
                  (try clear hcut37)
                  go_wp2_with (first | (go_at_call 22; (with_reducible refine (slices_Equal_byte_byte.calls k _ _ t135 _ _ t139 true _ ?side1 ?side2 ?side3 ?side4 A25.out).mono ?_); (case side1 => repeat (first | exact (Kd.R_reads' HO138.out).2.2 | (with_reducible refine Kd.C_alloc ?_ _) | (with_reducible refine Kd.C_drewN ?_ _) | (with_reducible refine Kd.C_drew ?_))); (case side2 => exact (Kd.R_reads' HO138.out).2.1); (case side3 => repeat (first | exact (Kd.R_reads' HO142.out).2.2 | (with_reducible refine Kd.C_alloc ?_ _) | (with_reducible refine Kd.C_drewN ?_ _) | (with_reducible refine Kd.C_drew ?_))); (case side4 => exact (Kd.R_reads' HO142.out).2.1); rintro e w' ⟨rfl, ⟨nd, rfl⟩⟩; have q43 : ((l0.length : Int) : Int) ≤ ((y128.length : Int) : Int) := of_decide_eq_true (by first | (with_reducible assumption) | assumption); obtain ⟨i043, hi043, _, hsz43, _⟩ := info_parts info5; have hroom43 : y128.length ≤ co21 := (Kd.R_reads' HO130.out).2.1; have hC43 : Kd.C (Kd.int .u8) _ Ao21 y128.length y128 := (Kd.R_reads' HO130.out).2.2; have hcut43 := cut_to (P := Try.prog) 22 5 .i64 Try.underlying22 hi043 Ao21 y128.length co21 (l0.length : Int) (of_decide_eq_true (by first | (with_reducible assumption) | assumption)) q43 hroom43; have hr43 := Kd.C_take (m := ((l0.length : Int) : Int).toNat) hC43 (by omega); have hy43 : y144.length = ((l0.length : Int) : Int).toNat := (by rw [Ny144.out, List.length_take]; omega); rw [← Ny144.out] at hr43; rw [← hy43] at hcut43; have HR147 := Aside0.mk hr43; have HC147 := Aside0.mk (show y144.length ≤ co21 from by omega); clear hr43 hC43 hroom43 hi043 hsz43; have KY43 := Aside0.mk hy43; clear hy43; have KL43 := Aside0.mk (show ((l0.length : Int) : Int).toNat ≤ y128.length from by omega); replace q43 := eq_true q43) | (go_at_call 22; (with_reducible refine (slices_Equal_byte_byte.calls k _ _ y144 _ _ l0 false _ ?side1 ?side2 ?side3 ?side4 A29.out).mono ?_); (case side1 => repeat (first | exact (by repeat (first | (with_reducible exact HR147.out) | (with_reducible refine Kd.C_alloc ?_ _) | (with_reducible refine Kd.C_drewN ?_ _) | (with_reducible refine Kd.C_drew ?_) | exact HR147.out)) | (with_reducible refine Kd.C_alloc ?_ _) | (with_reducible refine Kd.C_drewN ?_ _) | (with_reducible refine Kd.C_drew ?_))); (case side2 => exact HC147.out); (case side3 => repeat (first | exact (Kd.C_below HR0.out (by repeat (first | (with_reducible first | exact HB.out | apply below_alloc | apply pw_below_drewN | apply below_drew1) | exact HB.out))) | (with_reducible refine Kd.C_alloc ?_ _) | (with_reducible refine Kd.C_drewN ?_ _) | (with_reducible refine Kd.C_drew ?_))); (case side4 => exact HC0.out); rintro e w' ⟨rfl, ⟨nd, rfl⟩⟩))
                  go_meet
                  case rel => exact ⟨_, (true), (by first | rfl | (simp; done) | (simp [*]; done)), H', ⟨by first | omega | exact Nat.le_refl _⟩, ⟨by (with_reducible repeat (first | apply Kd.R_alloc | apply Kd.R_drewN | apply Kd.R_drew)); exact Kd.R_mono HO130.out (fun _ hk => hk.1.2)⟩, ⟨by (with_reducible repeat (first | apply Kd.R_alloc | apply Kd.R_drewN | apply Kd.R_drew)); exact Kd.R_mono HO138.out (fun _ hk => hk.1.2)⟩, ⟨by repeat (first | (with_reducible exact HR134.out) | (with_reducible refine Kd.C_alloc ?_ _) | (with_reducible refine Kd.C_drewN ?_ _) | (with_reducible refine Kd.C_drew ?_) | exact HR134.out)⟩, ⟨by repeat (first | (with_reducible first | exact HB.out | apply below_alloc | apply pw_below_drewN | apply below_drew1) | exact HB.out)⟩⟩
              · replace c26 := Bool.eq_false_iff.mpr c26
                subst c26
                have H1 : (timesynclaw02_WireAppends.j0 k l0 y128 t135 true) = some r := by rw [if_neg (show ¬ (false = true) by decide)] at H; exact H
                clear H
                have H := H1
                clear H1
                have H' := Aside0.mk H
                clear H
                obtain ⟨Ao44, co44, eo44⟩ := Kd.R_slice HO138.out
                subst eo44
                obtain ⟨Ao45, co45, eo45⟩ := Kd.R_slice HO142.out
                subst eo45
                go_wp2_with (first | (go_at_call 22; (with_reducible refine (slices_Equal_byte_byte.calls k _ _ t135 _ _ t139 false _ ?side1 ?side2 ?side3 ?side4 A25.out).mono ?_); (case side1 => repeat (first | exact (Kd.R_reads' HO138.out).2.2 | (with_reducible refine Kd.C_alloc ?_ _) | (with_reducible refine Kd.C_drewN ?_ _) | (with_reducible refine Kd.C_drew ?_))); (case side2 => exact (Kd.R_reads' HO138.out).2.1); (case side3 => repeat (first | exact (Kd.R_reads' HO142.out).2.2 | (with_reducible refine Kd.C_alloc ?_ _) | (with_reducible refine Kd.C_drewN ?_ _) | (with_reducible refine Kd.C_drew ?_))); (case side4 => exact (Kd.R_reads' HO142.out).2.1); rintro e w' ⟨rfl, ⟨nd, rfl⟩⟩))
                go_meet
                case rel => exact ⟨_, (true), (by first | rfl | (simp; done) | (simp [*]; done)), H', ⟨by first | omega | exact Nat.le_refl _⟩, ⟨by (with_reducible repeat (first | apply Kd.R_alloc | apply Kd.R_drewN | apply Kd.R_drew)); exact Kd.R_mono HO130.out (fun _ hk => hk.1.2)⟩, ⟨by (with_reducible repeat (first | apply Kd.R_alloc | apply Kd.R_drewN | apply Kd.R_drew)); exact Kd.R_mono HO138.out (fun _ hk => hk.1.2)⟩, ⟨by repeat (first | (with_reducible exact HR134.out) | (with_reducible refine Kd.C_alloc ?_ _) | (with_reducible refine Kd.C_drewN ?_ _) | (with_reducible refine Kd.C_drew ?_) | exact HR134.out)⟩, ⟨by repeat (first | (with_reducible first | exact HB.out | apply below_alloc | apply pw_below_drewN | apply below_drew1) | exact HB.out)⟩⟩
            · rw [if_neg c24] at H
              have c24b0 : (t136 == t140) = false := beq_eq_false_iff_ne.mpr c24
              have c24b1 : (t136 != t140) = true := bne_iff_ne.mpr c24
              (first | rw [c24b0] | (simp only [i64_w, i32_w]; rw [c24b0]) | skip)
              have H' := Aside0.mk H
              clear H
              go_wp2
              go_meet
              case rel => exact ⟨_, (true), (by first | rfl | (simp; done) | (simp [*]; done)), H', ⟨by first | omega | exact Nat.le_refl _⟩, ⟨by (with_reducible repeat (first | apply Kd.R_alloc | apply Kd.R_drewN | apply Kd.R_drew)); exact Kd.R_mono HO130.out (fun _ hk => hk.1.2)⟩, ⟨by (with_reducible repeat (first | apply Kd.R_alloc | apply Kd.R_drewN | apply Kd.R_drew)); exact Kd.R_mono HO138.out (fun _ hk => hk.1.2)⟩, ⟨by repeat (first | (with_reducible exact HR134.out) | (with_reducible refine Kd.C_alloc ?_ _) | (with_reducible refine Kd.C_drewN ?_ _) | (with_reducible refine Kd.C_drew ?_) | exact HR134.out)⟩, ⟨by repeat (first | (with_reducible first | exact HB.out | apply below_alloc | apply pw_below_drewN | apply below_drew1) | exact HB.out)⟩⟩
          case rest =>
            clear HC14
            try clear c1
            try clear c2
            try clear p2
            try clear q2
            try clear c3
            try clear q3
            try clear c4
            try clear c4b0
            try clear c4b1
            try clear q4
            try clear c5
            try clear c6
            try clear c9
            try clear c10
            try clear c10b0
            try clear c10b1
            try clear c11
            try clear c11b0
            try clear c11b1
            try clear c13
            try clear c14
            try clear c20
            try clear q20
            try clear c21
            try clear c24
            try clear c24b0
            try clear c24b1
            try clear c26
            try clear c27
            try clear c27b0
            try clear c28
            try clear c28b0
            try clear c30
            try clear c31
            try clear c31b0
            try clear c32
            try clear c32b0
            try clear q36
            try clear c37
            try clear q37
            try clear q43
            try clear q037
            try clear q20
            try clear q36
            try clear q37
            try clear q43
            obtain ⟨kq, x64_13, rfl, HA, HJ13, HO_7, HO_8, HR134, HB⟩ := hcut
            cases kq with
            | zero => exact absurd HA.out (by simp [timesynclaw02_WireAppends.j0])
            | succ kj13 =>
              have H := HA.out
              clear HA
              simp only [timesynclaw02_WireAppends.j0] at H
              by_cases c46 : x64_13 = true
              · subst c46
                have H1 : (none) = some r := by rw [if_pos rfl] at H; exact H
                clear H
                have H := H1
                clear H1
                exact absurd H (by simp)
              · replace c46 := Bool.eq_false_iff.mpr c46
                subst c46
                have H1 : (timesynclaw02_WireAppends.l0 kj13 l0 y128 t135 (t135.length : Int) 0) = some r := by rw [if_neg (show ¬ (false = true) by decide)] at H; exact H
                clear H
                have H := H1
                clear H1
                have H' := Aside0.mk H
                clear H
                obtain ⟨Ao47, co47, eo47⟩ := Kd.R_slice HO_8.out
                subst eo47
                go_wp2
                go_loopg [67] kj13 (fun kq v67 w' => ∃ (x8_2 : List Int) (x67_2 : Int), v67 = .int .i64 x67_2 ∧ Aside0 (timesynclaw02_WireAppends.l0 kq l0 y128 x8_2 (t135.length : Int) x67_2 = some r) ∧ Aside0 (kq ≤ kj13) ∧ Aside0 (Kd.R (Kd.int .u8) 5 w' w.heap.size (fun k_ => some k_ ≠ ((.slice Ao47 t135.length co47) : Value).ownBlock) (.slice Ao21 y128.length co21) y128) ∧ Aside0 (Kd.R (Kd.int .u8) 5 w' w.heap.size (fun k_ => some k_ ≠ ((.slice Ao21 y128.length co21) : Value).ownBlock) (.slice Ao47 t135.length co47) x8_2) ∧ Aside0 (Below w.heap.size w w'))
                case atStart => exact ⟨(t135), (0), (by first | rfl | (simp; done) | (simp [*]; done)), H', ⟨Nat.le_refl _⟩, ⟨by (with_reducible repeat (first | apply Kd.R_alloc | apply Kd.R_drewN | apply Kd.R_drew)); exact HO_7.out⟩, ⟨by (with_reducible repeat (first | apply Kd.R_alloc | apply Kd.R_drewN | apply Kd.R_drew)); exact HO_8.out⟩, ⟨by repeat (first | (with_reducible first | exact HB.out | apply below_alloc | apply pw_below_drewN | apply below_drew1) | exact HB.out)⟩⟩
                case round =>
                  clear H'
                  try clear c1
                  try clear c2
                  try clear p2
                  try clear q2
                  try clear c3
                  try clear q3
                  try clear c4
                  try clear c4b0
                  try clear c4b1
                  try clear q4
                  try clear c5
                  try clear c6
                  try clear c9
                  try clear c10
                  try clear c10b0
                  try clear c10b1
                  try clear c11
                  try clear c11b0
                  try clear c11b1
                  try clear c13
                  try clear c14
                  try clear c20
                  try clear q20
                  try clear c21
                  try clear c24
                  try clear c24b0
                  try clear c24b1
                  try clear c26
                  try clear c27
                  try clear c27b0
                  try clear c28
                  try clear c28b0
                  try clear c30
                  try clear c31
                  try clear c31b0
                  try clear c32
                  try clear c32b0
                  try clear q36
                  try clear c37
                  try clear q37
                  try clear q43
                  try clear c46
                  try clear p2
                  try clear q037
                  try clear q2
                  try clear q20
                  try clear q3
                  try clear q36
                  try clear q37
                  try clear q4
                  try clear q43
                  obtain ⟨x8_2, x67_2, rfl, HA, HK2, HO_7, HO_8, HB⟩ := hrel
                  have hl8_2 := (Kd.R_reads' HO_8.out).1
                  rw [hl8_2] at HO_8
                  (try simp only [hl8_2])
                  (try simp only [hl8_2] at HO_7)
                  cases gk with
                  | zero => exact absurd HA.out (by simp [timesynclaw02_WireAppends.l0])
                  | succ k2 =>
                    have H := HA.out
                    clear HA
                    simp only [timesynclaw02_WireAppends.l0] at H
                    by_cases c48 : x67_2 < (t135.length : Int)
                    · rw [if_pos c48] at H
                      have c48b0 : decide (x67_2 < (t135.length : Int)) = true := decide_eq_true c48
                      clear c48
                      by_cases c49 : 0 ≤ x67_2
                      · rw [if_pos c49] at H
                        have c49b0 : decide (0 ≤ x67_2) = true := decide_eq_true c49
                        clear c49
                        by_cases c50 : x67_2 < (x8_2.length : Int)
                        · rw [if_pos c50] at H
                          have c50b0 : decide (x67_2 < (x8_2.length : Int)) = true := decide_eq_true c50
                          clear c50
                          obtain ⟨y158, hy158⟩ : ∃ y_ : List Int, y_ = (x8_2.set (x67_2 : Int).toNat (((rd x8_2 x67_2) + 1) % 256)) := ⟨_, rfl⟩
                          replace H : (timesynclaw02_WireAppends.l0 k2 l0 y128 y158 (t135.length : Int) (wrap64 (x67_2 + 1))) = some r := by first | (rw [hy158]; with_reducible exact H) | (have H2_ := (Option.bind_some _ _).symm.trans H; rw [hy158]; with_reducible exact H2_) | (have H2_ := (Option.bind_some _ _).symm.trans H; with_reducible exact H2_) | with_reducible exact H | (rw [hy158]; exact H) | exact H
                          have Ny158 := Aside0.mk hy158
                          clear hy158
                          have H' := Aside0.mk H
                          clear H
                          have p157 : 0 ≤ (x67_2 : Int) := of_decide_eq_true (by first | (with_reducible assumption) | assumption)
                          have q157 : x67_2 < (x8_2.length : Int) := of_decide_eq_true (by first | (with_reducible assumption) | assumption)
                          obtain ⟨ad157, e157, hx157_0⟩ := Kd.at_int (Kd.R_reads' HO_8.out).2.2 x67_2 p157 q157
                          cases e157
                          replace p157 := eq_true p157
                          replace q157 := eq_true q157
                          have p51 : 0 ≤ (x67_2 : Int) := of_decide_eq_true (by first | (with_reducible assumption) | assumption)
                          have q51 : (x67_2 : Int) < ((x8_2.length : Int) : Int) := of_decide_eq_true (by first | (with_reducible assumption) | assumption)
                          obtain ⟨go51, co51, eo51, gb51, gl51, cl51, HG51⟩ := Kd.R_form HO_8.out (by omega)
                          (first | cases eo51 | (injection eo51 with ea_ en_ ec_; (first | subst ea_ | (injection ea_ with ea_; subst ea_)); subst ec_; clear en_))
                          have GB51 := Aside0.mk gb51
                          have GG51 := Aside0.mk HG51
                          clear gb51 gl51 HG51
                          (first | simp only [add_plain] at hx157_0 | skip)
                          obtain ⟨hx51_0, hf51_0⟩ := Kd.R_celln 0 HO_8.out (x67_2 : Int) p51 q51
                          replace p51 := eq_true p51
                          replace q51 := eq_true q51
                          have HP52 := Kd.R_putg HO_8.out (x67_2 : Int) (((rd x8_2 x67_2) + 1) % 256)
                          go_wp2_with (first | ((with_reducible refine gate_store (t := 5) (p := 75) rfl ?_); refine store_event (t := 5) (p := 75) (v := ?vo_w53) (w1 := (wr.setCell ⟨go51, (x67_2 : Int).toNat, none⟩ (.int .u8 (((rd x8_2 x67_2) + 1) % 256)))) ?hg ?ho ?hn ?hr ?_; (case ho => rfl); (case hg => rfl); (case hn => rfl); (case hr => first | (go_simp; done) | (go_simp; rfl)); intro w53 hw; have hg : wr.grownBy w53 (some go51) := (by rw [hw]; exact HP52.2); have hp_ : Kd.R (Kd.int .u8) 5 w53 w.heap.size (fun k_ => some k_ ≠ (.slice Ao21 y128.length co21 : Value).ownBlock) (.slice (some ⟨go51, 0, none⟩) x8_2.length co47) y158 := (by rw [hw, Ny158.out]; exact HP52.1); clear HP52; have n0_ := Aside0.mk (Kd.R_after (v := (.slice (some ⟨go51, 0, none⟩) x8_2.length co47)) (v1 := (.slice (some ⟨go51, 0, none⟩) x8_2.length co47)) (ok := (fun _ => True)) (by (with_reducible repeat (first | apply Kd.R_alloc | apply Kd.R_drewN | apply Kd.R_drew)); exact Kd.R_mono HO_7.out (fun _ hk => ⟨trivial, hk⟩)) hg (.inl rfl)); have n1_ := Aside0.mk (hp_); have n2_ := Aside0.mk ((by rw [hw]; exact below_set (HB.out) GB51.out : Below w.heap.size w w53)); clear HO_7; clear HO_8; clear HB; have HO_7 := n0_; have HO_8 := n1_; have HB := n2_; clear n0_ n1_ n2_; clear hg hw hp_))
                          (try simp only [← hl8_2])
                          go_roundg k2
                          case measure => have := HJ13.out; have := HK2.out; omega
                          case rel => exact ⟨(y158), (wrap64 (x67_2 + 1)), (by first | rfl | (simp; done) | (simp [*]; done)), H', ⟨by have := HJ13.out; have := HK2.out; omega⟩, ⟨by (try simp only [hl8_2]); (with_reducible repeat (first | apply Kd.R_alloc | apply Kd.R_drewN | apply Kd.R_drew)); exact Kd.R_mono HO_7.out (fun _ hk => hk.2)⟩, ⟨by (try simp only [hl8_2]); (with_reducible repeat (first | apply Kd.R_alloc | apply Kd.R_drewN | apply Kd.R_drew)); exact HO_8.out⟩, ⟨by repeat (first | (with_reducible first | exact HB.out | apply below_alloc | apply pw_below_drewN | apply below_drew1) | exact HB.out)⟩⟩
                        · rw [if_neg c50] at H
                          exact absurd H (by simp)
                      · rw [if_neg c49] at H
                        exact absurd H (by simp)
                    · rw [if_neg c48] at H
                      have c48b0 : decide (x67_2 < (t135.length : Int)) = false := decide_eq_false c48
                      have c48b9 : decide (x67_2 < (x8_2.length : Int)) = false := decide_eq_false (by have := hl8_2; omega)
                      clear c48
                      by_cases c54 : 0 ≤ (l0.length : Int)
                      · rw [if_pos c54] at H
                        have c54b0 := eq_true c54
                        have c54b1 : decide (0 ≤ (l0.length : Int)) = true := decide_eq_true c54
                        clear c54
                        by_cases c55 : (l0.length : Int) ≤ (y128.length : Int)
                        · rw [if_pos c55] at H
                          have c55b0 := eq_true c55
                          have c55b1 : decide ((l0.length : Int) ≤ (y128.length : Int)) = true := decide_eq_true c55
                          clear c55
                          obtain ⟨y159, hy159⟩ : ∃ y_ : List Int, y_ = (y128.take ((l0.length : Int) : Int).toNat) := ⟨_, rfl⟩
                          replace H : ((slices_Equal_byte_byte.f k2 y159 l0).bind fun t163 => (if t163 = true then ((timesynclaw02_awake.f).bind fun t164 => (if t164 = true then (some true) else (none))) else (none))) = some r := by first | (rw [hy159]; with_reducible exact H) | (have H2_ := (Option.bind_some _ _).symm.trans H; rw [hy159]; with_reducible exact H2_) | (have H2_ := (Option.bind_some _ _).symm.trans H; with_reducible exact H2_) | with_reducible exact H | (rw [hy159]; exact H) | exact H
                          have Ny159 := Aside0.mk hy159
                          clear hy159
                          replace H := Option.bind_eq_some_iff.mp H
                          obtain ⟨t163, A560, H⟩ := H
                          replace H : (if t163 = true then ((timesynclaw02_awake.f).bind fun t164 => (if t164 = true then (some true) else (none))) else (none)) = some r := H
                          have A56 := Aside0.mk A560
                          clear A560
                          by_cases c57 : t163 = true
                          · subst c57
                            have H1 : ((timesynclaw02_awake.f).bind fun t164 => (if t164 = true then (some true) else (none))) = some r := by rw [if_pos rfl] at H; exact H
                            clear H
                            have H := H1
                            clear H1
                            replace H := Option.bind_eq_some_iff.mp H
                            obtain ⟨t164, A580, H⟩ := H
                            replace H : (if t164 = true then (some true) else (none)) = some r := H
                            have A58 := Aside0.mk A580
                            clear A580
                            by_cases c59 : t164 = true
                            · subst c59
                              have H1 : (some true) = some r := by rw [if_pos rfl] at H; exact H
                              clear H
                              have H := H1
                              clear H1
                              obtain rfl := Option.some.inj H
                              have q60 : ((l0.length : Int) : Int) ≤ ((y128.length : Int) : Int) := of_decide_eq_true (by first | (with_reducible assumption) | assumption)
                              obtain ⟨i060, hi060, _, hsz60, _⟩ := info_parts info5
                              have hroom60 : y128.length ≤ co21 := (Kd.R_reads' HO_7.out).2.1
                              have hC60 : Kd.C (Kd.int .u8) _ Ao21 y128.length y128 := (Kd.R_reads' HO_7.out).2.2
                              (try clear hcut20)
                              (try clear hcut36)
                              (try clear hcut37)
                              (try clear hcut43)
                              have hcut60 := cut_to (P := Try.prog) 22 5 .i64 Try.underlying22 hi060 Ao21 y128.length co21 (l0.length : Int) (of_decide_eq_true (by first | (with_reducible assumption) | assumption)) q60 hroom60
                              have hr60 := Kd.C_take (m := ((l0.length : Int) : Int).toNat) hC60 (by omega)
                              have hy60 : y159.length = ((l0.length : Int) : Int).toNat := (by rw [Ny159.out, List.length_take]; omega)
                              rw [← Ny159.out] at hr60
                              rw [← hy60] at hcut60
                              have HR162 := Aside0.mk hr60
                              have HC162 := Aside0.mk (show y159.length ≤ co21 from by omega)
                              clear hr60 hC60 hroom60 hi060 hsz60
                              have KY60 := Aside0.mk hy60
                              clear hy60
                              have KL60 := Aside0.mk (show ((l0.length : Int) : Int).toNat ≤ y128.length from by omega)
                              replace q60 := eq_true q60
                              go_wp2_with (first | ((with_reducible refine gate_callee (f := 22) rfl ?_); refine goesL_ (some 82) rfl rfl Try.func22 (by kernel_rfl) rfl #[.slice Ao21 y159.length co21, .slice A0 l0.length c0] rfl (by (try simp only [List.map_toArray, List.map_cons, List.map_nil]); first | done | rfl | (simp only [List.length_drop, List.length_take]; rfl)) ?_; (with_reducible refine (slices_Equal_byte_byte.calls k2 _ _ y159 _ _ l0 true _ ?side1 ?side2 ?side3 ?side4 A56.out).mono ?_); (case side1 => repeat (first | exact (by repeat (first | (with_reducible exact HR162.out) | (with_reducible refine Kd.C_alloc ?_ _) | (with_reducible refine Kd.C_drewN ?_ _) | (with_reducible refine Kd.C_drew ?_) | exact HR162.out)) | (with_reducible refine Kd.C_alloc ?_ _) | (with_reducible refine Kd.C_drewN ?_ _) | (with_reducible refine Kd.C_drew ?_))); (case side2 => exact HC162.out); (case side3 => repeat (first | exact (Kd.C_below HR0.out HB.out) | (with_reducible refine Kd.C_alloc ?_ _) | (with_reducible refine Kd.C_drewN ?_ _) | (with_reducible refine Kd.C_drew ?_))); (case side4 => exact HC0.out); rintro e w' ⟨rfl, ⟨nd, rfl⟩⟩; refine ⟨_, rfl, ?_⟩) | (go_at_call 13; (with_reducible refine (timesynclaw02_awake.calls  true _ A58.out).mono ?_); rintro e w61 ⟨rfl, hb⟩; have n0_ := Aside0.mk (Kd.R_below (by (with_reducible repeat (first | apply Kd.R_alloc | apply Kd.R_drewN | apply Kd.R_drew)); exact HO_7.out) hb); have n1_ := Aside0.mk (Kd.R_below (by (with_reducible repeat (first | apply Kd.R_alloc | apply Kd.R_drewN | apply Kd.R_drew)); exact HO_8.out) hb); have n2_ := Aside0.mk (Kd.C_below (by repeat (first | (with_reducible exact HR162.out) | (with_reducible refine Kd.C_alloc ?_ _) | (with_reducible refine Kd.C_drewN ?_ _) | (with_reducible refine Kd.C_drew ?_) | exact HR162.out)) hb); have n3_ := Aside0.mk (below_step (by repeat (first | (with_reducible first | exact HB.out | apply below_alloc | apply pw_below_drewN | apply below_drew1) | exact HB.out)) hb); clear HO_7; clear HO_8; clear HR162; clear HB; have HO_7 := n0_; have HO_8 := n1_; have HR162 := n2_; have HB := n3_; clear n0_ n1_ n2_ n3_; (try clear hb); (try clear hb2); (try clear hk); (try clear hi)))
                              go_ret
                              exact ⟨by first | rfl | (simp [errW_none, errW_some] <;> rfl) | (simp [*, errW_none, errW_some] <;> rfl), by repeat (first | (with_reducible first | exact HB.out | apply below_alloc | apply pw_below_drewN | apply below_drew1) | exact HB.out)⟩
                            · replace c59 := Bool.eq_false_iff.mpr c59
                              subst c59
                              have H1 : (none) = some r := by rw [if_neg (show ¬ (false = true) by decide)] at H; exact H
                              clear H
                              have H := H1
                              clear H1
                              exact absurd H (by simp)
                          · replace c57 := Bool.eq_false_iff.mpr c57
                            subst c57
                            have H1 : (none) = some r := by rw [if_neg (show ¬ (false = true) by decide)] at H; exact H
                            clear H
                            have H := H1
                            clear H1
                            exact absurd H (by simp)
                        · rw [if_neg c55] at H
                          exact absurd H (by simp)
                      · rw [if_neg c54] at H
                        exact absurd H (by simp)
        · rw [if_neg c11] at H
          exact absurd H (by simp)
      · rw [if_neg c10] at H
        exact absurd H (by simp)
    · rw [if_neg c9] at H
      exact absurd H (by simp)

/-- THE ONE PURE STATEMENT of timesynclaw02_WireAppends: yours. -/
def timesynclaw02_WireAppends.Pure : Prop := ∀ (l0 : List Int) (a1 : Int) (a2 : Int), l0.length ≤ maxLen → l0.length * 1 ≤ 140737488351232 → (∀ x ∈ l0, (Lit.int .u8 x).wf = true) → (Lit.int .u64 a1).wf = true → (Lit.int .i64 a2).wf = true → ∃ k, timesynclaw02_WireAppends.f k l0 a1 a2 = some true
theorem timesynclaw02_WireAppends.walk (P : timesynclaw02_WireAppends.Pure) (a0 : Option Addr) (len0 cap0 : Nat) (z0 : List Int) (a1 : Int) (a2 : Int) (w : World) (w0 : (a0 = none ∧ len0 = 0 ∧ cap0 = 0 ∧ z0 = []) ∨ ∃ x, a0 = some x ∧ len0 ≤ cap0 ∧ cap0 ≤ maxLen ∧ z0.length = cap0 ∧ (∀ i, i < z0.length → w.cell? (x.add i) = some (.int .u8 (z0.getD i 0))) ∧ ∀ n ∈ z0, (Lit.int .u8 n).wf = true) (y0 : len0 * 1 ≤ 140737488351232) (w1 : (Lit.int .u64 a1).wf = true) (w2 : (Lit.int .i64 a2).wf = true) :
    Calls Try.prog 5 #[.slice a0 len0 cap0, .int .u64 a1, .int .i64 a2] w fun e w' => e = .returned (.bool true) ∧ Below w.heap.size w w' := by
  obtain ⟨l0, rfl, hr0, hm0, hw0, hc0⟩ := ReadsInt.ofRowC w0
  obtain ⟨k, h⟩ := P l0 a1 a2 hm0 y0 hw0 w1 w2
  refine (timesynclaw02_WireAppends.calls k _ _ l0 a1 a2 true w (Kd.C_of_reads (d := (0 : Int)) (h1 := fun _ => rfl) hr0) hc0 h).mono ?_
  rintro e w' ⟨rfl, hd⟩
  exact ⟨rfl, hd⟩

end Go.Proofs.Yteiogfmfcmfpjaa.P
