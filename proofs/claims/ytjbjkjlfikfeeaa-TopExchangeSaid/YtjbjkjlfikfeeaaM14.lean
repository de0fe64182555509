/- Texts of this claim, laid together: each says itself what it proves. -/
import Derived.Test.YtjbjkjlfikfeeaaM1
import Derived.Test.YtjbjkjlfikfeeaaM12
import Derived.Test.YtjbjkjlfikfeeaaM13
import Derived.Test.YtjbjkjlfikfeeaaM2
import Derived.Test.YtjbjkjlfikfeeaaM5
import Derived.Test.YtjbjkjlfikfeeaaM7
import Derived.Deep.RegionLaw
import Derived.Deep.RegionWith
namespace Go.Proofs.Ytjbjkjlfikfeeaa.P
open Go.RowKit Go.Proofs.YtjbjkjlfikfeeaaW.PrintWords Go.Proofs.YtjbjkjlfikfeeaaW.PrintLast Go.Proofs.YtjbjkjlfikfeeaaW.PrintMore
attribute [local go_sem] max2_int min2_int max_two min_two max_three min_three max_four min_four Go.Proofs.Ytjbjkjlfikfeeaa.Op.isSome_setCell   -- for this text's walks alone
set_option linter.unusedVariables false
set_option linter.unusedSimpArgs false

/-! ### stamp_Time: function 76 -/
mutual
def stamp_Time.j0 : Nat → Int → Int → Bool → Option (Int × Int)
  | 0, _, _, _ => none
  | k + 1, x0, x1, x21 => if x21 = true then (some (0, 2)) else ((stamp_Of.f k x1).bind fun t253 => ((stamp_Era.f x1).bind fun t254 => ((stamp_Diff.f x0 t253).bind fun t255 => (if t255 ≥ 0 then (stamp_Time.j1 k x0 t253 t254 t255 (decide (x0 < t253))) else (stamp_Time.j1 k x0 t253 t254 t255 false)))))
def stamp_Time.j2 : Nat → Int → Int → Option (Int × Int)
  | 0, _, _ => none
  | k + 1, x0, x7 => (bits_Mul64.f x0 1000000000).bind fun bt256 => (if (Go.bits .and .u64 bt256.2 4294967295) = 0 then (stamp_Time.j3 k x7 (wrap64 (Go.bits .or .u64 (IntKind.u64.wrap (bt256.1 * 4294967296)) (bt256.2 / 4294967296)))) else (stamp_Time.j3 k x7 (wrap64 ((wrap64 (Go.bits .or .u64 (IntKind.u64.wrap (bt256.1 * 4294967296)) (bt256.2 / 4294967296))) + 1))))
def stamp_Time.j3 : Nat → Int → Int → Option (Int × Int)
  | 0, _, _ => none
  | k + 1, x7, x11 => (fixed_Mul.f x7 4294967296000000000).bind fun bt258 => ((fixed_Add.f bt258.1 x11).bind fun bt260 => (if bt258.2 = true then (if bt260.2 = true then (if bt260.1 < (-8000000000000000000) then (some (0, 3)) else (if bt260.1 > 8000000000000000000 then (some (0, 3)) else (some (bt260.1, 0)))) else (some (0, 3))) else (some (0, 3))))
def stamp_Time.j1 : Nat → Int → Int → Int → Int → Bool → Option (Int × Int)
  | 0, _, _, _, _, _ => none
  | k + 1, x0, x6, x7, x8, x29 => if x29 = true then (stamp_Time.j2 k x0 (wrap64 (x7 + 1))) else (if x8 < 0 then (if x0 > x6 then (stamp_Time.j2 k x0 (wrap64 (x7 - 1))) else (stamp_Time.j2 k x0 x7)) else (stamp_Time.j2 k x0 x7))
end
def stamp_Time.f (k : Nat) (a0 : Int) (a1 : Int) : Option (Int × Int) := if a1 < (-8000000000000000000) then (stamp_Time.j0 k a0 a1 true) else (stamp_Time.j0 k a0 a1 (decide (a1 > 8000000000000000000)))
theorem stamp_Time.mono_l : ∀ k, (∀ y0 y1 y2, LeO (stamp_Time.j0 k y0 y1 y2) (stamp_Time.j0 (k + 1) y0 y1 y2)) ∧ (∀ y0 y1, LeO (stamp_Time.j2 k y0 y1) (stamp_Time.j2 (k + 1) y0 y1)) ∧ (∀ y0 y1, LeO (stamp_Time.j3 k y0 y1) (stamp_Time.j3 (k + 1) y0 y1)) ∧ (∀ y0 y1 y2 y3 y4, LeO (stamp_Time.j1 k y0 y1 y2 y3 y4) (stamp_Time.j1 (k + 1) y0 y1 y2 y3 y4))
  | 0 => ⟨fun _ _ _ r h => by simp [stamp_Time.j0] at h, fun _ _ r h => by simp [stamp_Time.j2] at h, fun _ _ r h => by simp [stamp_Time.j3] at h, fun _ _ _ _ _ r h => by simp [stamp_Time.j1] at h⟩
  | k + 1 => by
    obtain ⟨ih0, ih1, ih2, ih3⟩ := stamp_Time.mono_l k
    refine ⟨?_, ?_, ?_, ?_⟩
    · intro y0 y1 y2
      unfold stamp_Time.j0
      repeat' first
      | (with_reducible exact ih0 _ _ _)
      | (with_reducible exact ih1 _ _)
      | (with_reducible exact ih2 _ _)
      | (with_reducible exact ih3 _ _ _ _ _)
      | (with_reducible exact stamp_Of.mono _ _)
      | (with_reducible exact LeO.refl _)
      | (with_reducible exact LeO.none _)
      | (with_reducible refine LeO.ite ?_ ?_)
      | (with_reducible refine LeO.bind ?_ (fun _ => ?_))
      | exact ih0 _ _ _
      | exact ih1 _ _
      | exact ih2 _ _
      | exact ih3 _ _ _ _ _
      | exact stamp_Of.mono _ _
      | exact LeO.none _
      | refine LeO.ite ?_ ?_
      | refine LeO.bind ?_ (fun _ => ?_)
    · intro y0 y1
      unfold stamp_Time.j2
      repeat' first
      | (with_reducible exact ih0 _ _ _)
      | (with_reducible exact ih1 _ _)
      | (with_reducible exact ih2 _ _)
      | (with_reducible exact ih3 _ _ _ _ _)
      | (with_reducible exact stamp_Of.mono _ _)
      | (with_reducible exact LeO.refl _)
      | (with_reducible exact LeO.none _)
      | (with_reducible refine LeO.ite ?_ ?_)
      | (with_reducible refine LeO.bind ?_ (fun _ => ?_))
      | exact ih0 _ _ _
      | exact ih1 _ _
      | exact ih2 _ _
      | exact ih3 _ _ _ _ _
      | exact stamp_Of.mono _ _
      | exact LeO.none _
      | refine LeO.ite ?_ ?_
      | refine LeO.bind ?_ (fun _ => ?_)
    · intro y0 y1
      unfold stamp_Time.j3
      repeat' first
      | (with_reducible exact ih0 _ _ _)
      | (with_reducible exact ih1 _ _)
      | (with_reducible exact ih2 _ _)
      | (with_reducible exact ih3 _ _ _ _ _)
      | (with_reducible exact stamp_Of.mono _ _)
      | (with_reducible exact LeO.refl _)
      | (with_reducible exact LeO.none _)
      | (with_reducible refine LeO.ite ?_ ?_)
      | (with_reducible refine LeO.bind ?_ (fun _ => ?_))
      | exact ih0 _ _ _
      | exact ih1 _ _
      | exact ih2 _ _
      | exact ih3 _ _ _ _ _
      | exact stamp_Of.mono _ _
      | exact LeO.none _
      | refine LeO.ite ?_ ?_
      | refine LeO.bind ?_ (fun _ => ?_)
    · intro y0 y1 y2 y3 y4
      unfold stamp_Time.j1
      repeat' first
      | (with_reducible exact ih0 _ _ _)
      | (with_reducible exact ih1 _ _)
      | (with_reducible exact ih2 _ _)
      | (with_reducible exact ih3 _ _ _ _ _)
      | (with_reducible exact stamp_Of.mono _ _)
      | (with_reducible exact LeO.refl _)
      | (with_reducible exact LeO.none _)
      | (with_reducible refine LeO.ite ?_ ?_)
      | (with_reducible refine LeO.bind ?_ (fun _ => ?_))
      | exact ih0 _ _ _
      | exact ih1 _ _
      | exact ih2 _ _
      | exact ih3 _ _ _ _ _
      | exact stamp_Of.mono _ _
      | exact LeO.none _
      | refine LeO.ite ?_ ?_
      | refine LeO.bind ?_ (fun _ => ?_)
theorem stamp_Time.mono : ∀ a0 a1 k, LeO (stamp_Time.f k a0 a1) (stamp_Time.f (k + 1) a0 a1) := by
  intro a0 a1 k
  obtain ⟨ih0, ih1, ih2, ih3⟩ := stamp_Time.mono_l k
  unfold stamp_Time.f
  repeat' first
      | (with_reducible exact ih0 _ _ _)
      | (with_reducible exact ih1 _ _)
      | (with_reducible exact ih2 _ _)
      | (with_reducible exact ih3 _ _ _ _ _)
      | (with_reducible exact stamp_Of.mono _ _)
      | (with_reducible exact LeO.refl _)
      | (with_reducible exact LeO.none _)
      | (with_reducible refine LeO.ite ?_ ?_)
      | (with_reducible refine LeO.bind ?_ (fun _ => ?_))
      | exact ih0 _ _ _
      | exact ih1 _ _
      | exact ih2 _ _
      | exact ih3 _ _ _ _ _
      | exact stamp_Of.mono _ _
      | exact LeO.none _
      | refine LeO.ite ?_ ?_
      | refine LeO.bind ?_ (fun _ => ?_)
set_option maxHeartbeats 8000000 in
set_option maxRecDepth 100000 in
theorem stamp_Time.calls (k : Nat) (a0 : Int) (a1 : Int) (r1 : Int) (r2 : Int) (w : World) (h : stamp_Time.f k a0 a1 = some (r1, r2)) :
    Calls Try.prog 76 #[.int .u64 a0, .int .i64 a1] w fun e w' => e = .returned (.tuple #[.int .i64 r1, .int .i64 r2]) ∧ Drawn0 w w' := by
  have H : (if a1 < (-8000000000000000000) then (stamp_Time.j0 k a0 a1 true) else (stamp_Time.j0 k a0 a1 (decide (a1 > 8000000000000000000)))) = some (r1, r2) := h
  clear h
  have HC3 := Aside0.mk H
  clear H
  go_enter Try.func76, Try.ntmps76
  go_upto_region 1 with (fail)
  go_cut [21] (fun v21 wc => ∃ (kq : Nat) (x21_2 : Bool), v21 = .bool x21_2 ∧ Aside0 (stamp_Time.j0 kq a0 a1 x21_2 = some (r1, r2)) ∧ Aside0 (kq ≤ k) ∧ Drawn0 w wc)
  case first =>
    have H := HC3.out
    clear HC3
    by_cases c4 : a1 < (-8000000000000000000)
    · rw [if_pos c4] at H
      have c4b0 : decide (a1 < (-8000000000000000000)) = true := decide_eq_true c4
      clear c4
      (first | rw [c4b0] | (simp only [i64_w, i32_w]; rw [c4b0]) | skip)
      have H' := Aside0.mk H
      clear H
      go_wp2
      go_meet
      case rel => exact ⟨_, (true), (by first | rfl | (simp; done) | (simp [*]; done)), H', ⟨by first | omega | exact Nat.le_refl _⟩, by repeat (first | exact Drawn0.refl _ | apply Drawn0.step)⟩
    · rw [if_neg c4] at H
      have c4b0 : decide (a1 < (-8000000000000000000)) = false := decide_eq_false c4
      clear c4
      (first | rw [c4b0] | (simp only [i64_w, i32_w]; rw [c4b0]) | skip)
      have H' := Aside0.mk H
      clear H
      go_wp2
      go_meet
      case rel => exact ⟨_, (decide (a1 > 8000000000000000000)), (by first | rfl | (simp; done) | (simp [*]; done)), H', ⟨by first | omega | exact Nat.le_refl _⟩, by repeat (first | exact Drawn0.refl _ | apply Drawn0.step)⟩
  case rest =>
    clear HC3
    try clear p2
    try clear c4
    try clear c4b0
    obtain ⟨kq, x21_2, rfl, HA, HJ2, ⟨mc2, rfl⟩⟩ := hcut
    cases kq with
    | zero => exact absurd HA.out (by simp [stamp_Time.j0])
    | succ kj2 =>
      have H := HA.out
      clear HA
      simp only [stamp_Time.j0] at H
      by_cases c5 : x21_2 = true
      · subst c5
        have H1 : (some (0, 2)) = some (r1, r2) := by rw [if_pos rfl] at H; exact H
        clear H
        have H := H1
        clear H1
        simp only [Option.some.injEq, Prod.mk.injEq] at H
        obtain ⟨rfl, rfl⟩ := H
        go_wp2
        go_ret2
        exact ⟨by first | rfl | (simp; done) | (simp [*]; done), by repeat (first | exact Drawn0.refl _ | apply Drawn0.step)⟩
      · replace c5 := Bool.eq_false_iff.mpr c5
        subst c5
        have H1 : ((stamp_Of.f kj2 a1).bind fun t253 => ((stamp_Era.f a1).bind fun t254 => ((stamp_Diff.f a0 t253).bind fun t255 => (if t255 ≥ 0 then (stamp_Time.j1 kj2 a0 t253 t254 t255 (decide (a0 < t253))) else (stamp_Time.j1 kj2 a0 t253 t254 t255 false))))) = some (r1, r2) := by rw [if_neg (show ¬ (false = true) by decide)] at H; exact H
        clear H
        have H := H1
        clear H1
        replace H := Option.bind_eq_some_iff.mp H
        obtain ⟨t253, A60, H⟩ := H
        replace H : ((stamp_Era.f a1).bind fun t254 => ((stamp_Diff.f a0 t253).bind fun t255 => (if t255 ≥ 0 then (stamp_Time.j1 kj2 a0 t253 t254 t255 (decide (a0 < t253))) else (stamp_Time.j1 kj2 a0 t253 t254 t255 false)))) = some (r1, r2) := H
        have A6 := Aside0.mk A60
        clear A60
        replace H := Option.bind_eq_some_iff.mp H
        obtain ⟨t254, A70, H⟩ := H
        replace H : ((stamp_Diff.f a0 t253).bind fun t255 => (if t255 ≥ 0 then (stamp_Time.j1 kj2 a0 t253 t254 t255 (decide (a0 < t253))) else (stamp_Time.j1 kj2 a0 t253 t254 t255 false))) = some (r1, r2) := H
        have A7 := Aside0.mk A70
        clear A70
        replace H := Option.bind_eq_some_iff.mp H
        obtain ⟨t255, A80, H⟩ := H
        replace H : (if t255 ≥ 0 then (stamp_Time.j1 kj2 a0 t253 t254 t255 (decide (a0 < t253))) else (stamp_Time.j1 kj2 a0 t253 t254 t255 false)) = some (r1, r2) := H
        have A8 := Aside0.mk A80
        clear A80
        have HC9 := Aside0.mk H
        clear H
        go_upto_block 0 with (first | ((with_reducible refine gate_callee (f := 15) rfl ?_); refine goesL_ (some 23) rfl rfl Try.func15 (by kernel_rfl) rfl #[.int .i64 a1] rfl (by (try simp only [List.map_toArray, List.map_cons, List.map_nil]); first | done | rfl | (simp only [List.length_drop, List.length_take]; rfl)) ?_; (with_reducible refine (stamp_Of.calls kj2 a1 t253 _ A6.out).mono ?_); rintro e w' ⟨rfl, ⟨nd, rfl⟩⟩; refine ⟨_, rfl, ?_⟩) | ((with_reducible refine gate_callee (f := 77) rfl ?_); refine goesL_ (some 25) rfl rfl Try.func77 (by kernel_rfl) rfl #[.int .i64 a1] rfl (by (try simp only [List.map_toArray, List.map_cons, List.map_nil]); first | done | rfl | (simp only [List.length_drop, List.length_take]; rfl)) ?_; (with_reducible refine (stamp_Era.calls a1 t254 _ A7.out).mono ?_); rintro e w' ⟨rfl, ⟨nd, rfl⟩⟩; refine ⟨_, rfl, ?_⟩) | ((with_reducible refine gate_callee (f := 78) rfl ?_); refine goesL_ (some 28) rfl rfl Try.func78 (by kernel_rfl) rfl #[.int .u64 a0, .int .u64 t253] rfl (by (try simp only [List.map_toArray, List.map_cons, List.map_nil]); first | done | rfl | (simp only [List.length_drop, List.length_take]; rfl)) ?_; (with_reducible refine (stamp_Diff.calls a0 t253 t255 _ A8.out).mono ?_); rintro e w' ⟨rfl, ⟨nd, rfl⟩⟩; refine ⟨_, rfl, ?_⟩))
        (try simp only [Act.put, List.setIfInBounds_toArray, List.set_cons_zero, List.set_cons_succ])
        go_cut [7] (fun v7 wc => ∃ (kq : Nat) (x7_8 : Int), v7 = .int .i64 x7_8 ∧ Aside0 (stamp_Time.j2 kq a0 x7_8 = some (r1, r2)) ∧ Aside0 (kq ≤ kj2) ∧ Drawn0 w wc)
        case first =>
          have H := HC9.out
          clear HC9
          have HC10 := Aside0.mk H
          clear H
          go_upto_region 6 with (fail)
          go_cut [29] (fun v29 wc => ∃ (kq : Nat) (x29_9 : Bool), v29 = .bool x29_9 ∧ Aside0 (stamp_Time.j1 kq a0 t253 t254 t255 x29_9 = some (r1, r2)) ∧ Aside0 (kq ≤ kj2) ∧ Drawn0 w wc)
          case first =>
            have H := HC10.out
            clear HC10
            by_cases c11 : t255 ≥ 0
            · rw [if_pos c11] at H
              have c11b0 : decide (0 ≤ t255) = true := decide_eq_true c11
              clear c11
              (first | rw [c11b0] | (simp only [i64_w, i32_w]; rw [c11b0]) | skip)
              have H' := Aside0.mk H
              clear H
              go_wp2
              go_meet
              case rel => exact ⟨_, (decide (a0 < t253)), (by first | rfl | (simp; done) | (simp [*]; done)), H', ⟨by have := HJ2.out; first | omega | exact Nat.le_refl _⟩, by repeat (first | exact Drawn0.refl _ | apply Drawn0.step)⟩
            · rw [if_neg c11] at H
              have c11b0 : decide (0 ≤ t255) = false := decide_eq_false c11
              clear c11
              (first | rw [c11b0] | (simp only [i64_w, i32_w]; rw [c11b0]) | skip)
              have H' := Aside0.mk H
              clear H
              go_wp2
              go_meet
              case rel => exact ⟨_, (false), (by first | rfl | (simp; done) | (simp [*]; done)), H', ⟨by have := HJ2.out; first | omega | exact Nat.le_refl _⟩, by repeat (first | exact Drawn0.refl _ | apply Drawn0.step)⟩
          case rest =>
            clear HC10
            try clear c1
            try clear c2
            try clear p2
            try clear c4
            try clear c4b0
            try clear c5
            try clear c7
            try clear c11
            try clear c11b0
            try clear p2
            obtain ⟨kq, x29_9, rfl, HA, HJ9, ⟨mc9, rfl⟩⟩ := hcut
            cases kq with
            | zero => exact absurd HA.out (by simp [stamp_Time.j1])
            | succ kj9 =>
              have H := HA.out
              clear HA
              simp only [stamp_Time.j1] at H
              by_cases c12 : x29_9 = true
              · subst c12
                have H1 : (stamp_Time.j2 kj9 a0 (wrap64 (t254 + 1))) = some (r1, r2) := by rw [if_pos rfl] at H; exact H
                clear H
                have H := H1
                clear H1
                have H' := Aside0.mk H
                clear H
                go_wp2
                go_meet
                case rel => exact ⟨_, (wrap64 (t254 + 1)), (by first | rfl | (simp; done) | (simp [*]; done)), H', ⟨by have := HJ2.out; have := HJ9.out; first | omega | exact Nat.le_refl _⟩, by repeat (first | exact Drawn0.refl _ | apply Drawn0.step)⟩
              · replace c12 := Bool.eq_false_iff.mpr c12
                subst c12
                have H1 : (if t255 < 0 then (if a0 > t253 then (stamp_Time.j2 kj9 a0 (wrap64 (t254 - 1))) else (stamp_Time.j2 kj9 a0 t254)) else (stamp_Time.j2 kj9 a0 t254)) = some (r1, r2) := by rw [if_neg (show ¬ (false = true) by decide)] at H; exact H
                clear H
                have H := H1
                clear H1
                by_cases c13 : t255 < 0
                · rw [if_pos c13] at H
                  have c13b0 : decide (t255 < 0) = true := decide_eq_true c13
                  clear c13
                  by_cases c14 : a0 > t253
                  · rw [if_pos c14] at H
                    have c14b0 : decide (t253 < a0) = true := decide_eq_true c14
                    clear c14
                    have H' := Aside0.mk H
                    clear H
                    go_wp2
                    go_meet
                    case rel => exact ⟨_, (wrap64 (t254 - 1)), (by first | rfl | (simp; done) | (simp [*]; done)), H', ⟨by have := HJ2.out; have := HJ9.out; first | omega | exact Nat.le_refl _⟩, by repeat (first | exact Drawn0.refl _ | apply Drawn0.step)⟩
                  · rw [if_neg c14] at H
                    have c14b0 : decide (t253 < a0) = false := decide_eq_false c14
                    clear c14
                    have H' := Aside0.mk H
                    clear H
                    go_wp2
                    go_meet
                    case rel => exact ⟨_, (t254), (by first | rfl | (simp; done) | (simp [*]; done)), H', ⟨by have := HJ2.out; have := HJ9.out; first | omega | exact Nat.le_refl _⟩, by repeat (first | exact Drawn0.refl _ | apply Drawn0.step)⟩
                · rw [if_neg c13] at H
                  have c13b0 : decide (t255 < 0) = false := decide_eq_false c13
                  clear c13
                  have H' := Aside0.mk H
                  clear H
                  go_wp2
                  go_meet
                  case rel => exact ⟨_, (t254), (by first | rfl | (simp; done) | (simp [*]; done)), H', ⟨by have := HJ2.out; have := HJ9.out; first | omega | exact Nat.le_refl _⟩, by repeat (first | exact Drawn0.refl _ | apply Drawn0.step)⟩
        case rest =>
          clear HC9
          try clear c1
          try clear c2
          try clear p2
          try clear c4
          try clear c4b0
          try clear c5
          try clear p6
          try clear c7
          try clear c9
          try clear c11
          try clear c11b0
          try clear c12
          try clear c13
          try clear c13b0
          try clear c14
          try clear c14b0
          try clear p2
          obtain ⟨kq, x7_8, rfl, HA, HJ8, ⟨mc8, rfl⟩⟩ := hcut
          cases kq with
          | zero => exact absurd HA.out (by simp [stamp_Time.j2])
          | succ kj8 =>
            have H := HA.out
            clear HA
            simp only [stamp_Time.j2] at H
            replace H := Option.bind_eq_some_iff.mp H
            obtain ⟨⟨t256, t257⟩, A150, H⟩ := H
            replace H : (if (Go.bits .and .u64 t257 4294967295) = 0 then (stamp_Time.j3 kj8 x7_8 (wrap64 (Go.bits .or .u64 (IntKind.u64.wrap (t256 * 4294967296)) (t257 / 4294967296)))) else (stamp_Time.j3 kj8 x7_8 (wrap64 ((wrap64 (Go.bits .or .u64 (IntKind.u64.wrap (t256 * 4294967296)) (t257 / 4294967296))) + 1)))) = some (r1, r2) := H
            have A15 := Aside0.mk A150
            clear A150
            have HC16 := Aside0.mk H
            clear H
            go_upto_if 62 with (first | ((with_reducible refine gate_callee (f := 37) rfl ?_); refine goesL_ (some 51) rfl rfl Try.func37 (by kernel_rfl) rfl #[.int .u64 a0, .int .u64 1000000000] rfl (by (try simp only [List.map_toArray, List.map_cons, List.map_nil]); first | done | rfl | (simp only [List.length_drop, List.length_take]; rfl)) ?_; (with_reducible refine (bits_Mul64.calls a0 1000000000 t256 t257 _ A15.out).mono ?_); rintro e w' ⟨rfl, ⟨nd, rfl⟩⟩; refine ⟨_, rfl, ?_⟩))
            (try simp only [Act.put, List.setIfInBounds_toArray, List.set_cons_zero, List.set_cons_succ])
            go_cut [11] (fun v11 wc => ∃ (kq : Nat) (x11_15 : Int), v11 = .int .i64 x11_15 ∧ Aside0 (stamp_Time.j3 kq x7_8 x11_15 = some (r1, r2)) ∧ Aside0 (kq ≤ kj8) ∧ Drawn0 w wc)
            case first =>
              have H := HC16.out
              clear HC16
              by_cases c17 : (Go.bits .and .u64 t257 4294967295) = 0
              · rw [if_pos c17] at H
                have c17b0 : ((Go.bits .and .u64 t257 4294967295) == 0) = true := beq_iff_eq.mpr c17
                have c17b1 : ((Go.bits .and .u64 t257 4294967295) != 0) = false := bne_eq_false_iff_eq.mpr c17
                clear c17
                (first | rw [c17b0] | (simp only [i64_w, i32_w]; rw [c17b0]) | skip)
                have H' := Aside0.mk H
                clear H
                go_wp2
                go_meet
                case rel => exact ⟨_, (wrap64 (Go.bits .or .u64 (IntKind.u64.wrap (t256 * 4294967296)) (t257 / 4294967296))), (by first | rfl | (simp; done) | (simp [*]; done)), H', ⟨by have := HJ2.out; have := HJ8.out; first | omega | exact Nat.le_refl _⟩, by repeat (first | exact Drawn0.refl _ | apply Drawn0.step)⟩
              · rw [if_neg c17] at H
                have c17b0 : ((Go.bits .and .u64 t257 4294967295) == 0) = false := beq_eq_false_iff_ne.mpr c17
                have c17b1 : ((Go.bits .and .u64 t257 4294967295) != 0) = true := bne_iff_ne.mpr c17
                (first | rw [c17b0] | (simp only [i64_w, i32_w]; rw [c17b0]) | skip)
                have H' := Aside0.mk H
                clear H
                go_wp2
                go_meet
                case rel => exact ⟨_, (wrap64 ((wrap64 (Go.bits .or .u64 (IntKind.u64.wrap (t256 * 4294967296)) (t257 / 4294967296))) + 1)), (by first | rfl | (simp; done) | (simp [*]; done)), H', ⟨by have := HJ2.out; have := HJ8.out; first | omega | exact Nat.le_refl _⟩, by repeat (first | exact Drawn0.refl _ | apply Drawn0.step)⟩
            case rest =>
              clear HC16
              try clear c1
              try clear c2
              try clear p2
              try clear c3
              try clear c4
              try clear c4b0
              try clear c5
              try clear p6
              try clear c7
              try clear c8
              try clear c9
              try clear c11
              try clear c11b0
              try clear c12
              try clear c13
              try clear c13b0
              try clear c14
              try clear c14b0
              try clear c15
              try clear c17
              try clear c17b0
              try clear c17b1
              try clear p2
              try clear p6
              obtain ⟨kq, x11_15, rfl, HA, HJ15, ⟨mc15, rfl⟩⟩ := hcut
              cases kq with
              | zero => exact absurd HA.out (by simp [stamp_Time.j3])
              | succ kj15 =>
                have H := HA.out
                clear HA
                simp only [stamp_Time.j3] at H
                replace H := Option.bind_eq_some_iff.mp H
                obtain ⟨⟨t258, t259⟩, A180, H⟩ := H
                replace H : ((fixed_Add.f t258 x11_15).bind fun bt260 => (if t259 = true then (if bt260.2 = true then (if bt260.1 < (-8000000000000000000) then (some (0, 3)) else (if bt260.1 > 8000000000000000000 then (some (0, 3)) else (some (bt260.1, 0)))) else (some (0, 3))) else (some (0, 3)))) = some (r1, r2) := H
                have A18 := Aside0.mk A180
                clear A180
                replace H := Option.bind_eq_some_iff.mp H
                obtain ⟨⟨t260, t261⟩, A190, H⟩ := H
                replace H : (if t259 = true then (if t261 = true then (if t260 < (-8000000000000000000) then (some (0, 3)) else (if t260 > 8000000000000000000 then (some (0, 3)) else (some (t260, 0)))) else (some (0, 3))) else (some (0, 3))) = some (r1, r2) := H
                have A19 := Aside0.mk A190
                clear A190
                by_cases c20 : t259 = true
                · subst c20
                  have H1 : (if t261 = true then (if t260 < (-8000000000000000000) then (some (0, 3)) else (if t260 > 8000000000000000000 then (some (0, 3)) else (some (t260, 0)))) else (some (0, 3))) = some (r1, r2) := by rw [if_pos rfl] at H; exact H
                  clear H
                  have H := H1
                  clear H1
                  by_cases c21 : t261 = true
                  · subst c21
                    have H1 : (if t260 < (-8000000000000000000) then (some (0, 3)) else (if t260 > 8000000000000000000 then (some (0, 3)) else (some (t260, 0)))) = some (r1, r2) := by rw [if_pos rfl] at H; exact H
                    clear H
                    have H := H1
                    clear H1
                    by_cases c22 : t260 < (-8000000000000000000)
                    · rw [if_pos c22] at H
                      have c22b0 : decide (t260 < (-8000000000000000000)) = true := decide_eq_true c22
                      clear c22
                      simp only [Option.some.injEq, Prod.mk.injEq] at H
                      obtain ⟨rfl, rfl⟩ := H
                      go_wp2_with (first | ((with_reducible refine gate_callee (f := 79) rfl ?_); refine goesL_ (some 67) rfl rfl Try.func79 (by kernel_rfl) rfl #[.int .i64 x7_8, .int .i64 4294967296000000000] rfl (by (try simp only [List.map_toArray, List.map_cons, List.map_nil]); first | done | rfl | (simp only [List.length_drop, List.length_take]; rfl)) ?_; (with_reducible refine (fixed_Mul.calls x7_8 4294967296000000000 t258 true _ A18.out).mono ?_); rintro e w' ⟨rfl, ⟨nd, rfl⟩⟩; refine ⟨_, rfl, ?_⟩) | ((with_reducible refine gate_callee (f := 80) rfl ?_); refine goesL_ (some 73) rfl rfl Try.func80 (by kernel_rfl) rfl #[.int .i64 t258, .int .i64 x11_15] rfl (by (try simp only [List.map_toArray, List.map_cons, List.map_nil]); first | done | rfl | (simp only [List.length_drop, List.length_take]; rfl)) ?_; (with_reducible refine (fixed_Add.calls t258 x11_15 t260 true _ A19.out).mono ?_); rintro e w' ⟨rfl, ⟨nd, rfl⟩⟩; refine ⟨_, rfl, ?_⟩))
                      go_ret2
                      exact ⟨by first | rfl | (simp; done) | (simp [*]; done), by repeat (first | exact Drawn0.refl _ | apply Drawn0.step)⟩
                    · rw [if_neg c22] at H
                      have c22b0 : decide (t260 < (-8000000000000000000)) = false := decide_eq_false c22
                      clear c22
                      by_cases c23 : t260 > 8000000000000000000
                      · rw [if_pos c23] at H
                        have c23b0 : decide (8000000000000000000 < t260) = true := decide_eq_true c23
                        clear c23
                        simp only [Option.some.injEq, Prod.mk.injEq] at H
                        obtain ⟨rfl, rfl⟩ := H
                        go_wp2_with (first | ((with_reducible refine gate_callee (f := 79) rfl ?_); refine goesL_ (some 67) rfl rfl Try.func79 (by kernel_rfl) rfl #[.int .i64 x7_8, .int .i64 4294967296000000000] rfl (by (try simp only [List.map_toArray, List.map_cons, List.map_nil]); first | done | rfl | (simp only [List.length_drop, List.length_take]; rfl)) ?_; (with_reducible refine (fixed_Mul.calls x7_8 4294967296000000000 t258 true _ A18.out).mono ?_); rintro e w' ⟨rfl, ⟨nd, rfl⟩⟩; refine ⟨_, rfl, ?_⟩) | ((with_reducible refine gate_callee (f := 80) rfl ?_); refine goesL_ (some 73) rfl rfl Try.func80 (by kernel_rfl) rfl #[.int .i64 t258, .int .i64 x11_15] rfl (by (try simp only [List.map_toArray, List.map_cons, List.map_nil]); first | done | rfl | (simp only [List.length_drop, List.length_take]; rfl)) ?_; (with_reducible refine (fixed_Add.calls t258 x11_15 t260 true _ A19.out).mono ?_); rintro e w' ⟨rfl, ⟨nd, rfl⟩⟩; refine ⟨_, rfl, ?_⟩))
                        go_ret2
                        exact ⟨by first | rfl | (simp; done) | (simp [*]; done), by repeat (first | exact Drawn0.refl _ | apply Drawn0.step)⟩
                      · rw [if_neg c23] at H
                        have c23b0 : decide (8000000000000000000 < t260) = false := decide_eq_false c23
                        clear c23
                        simp only [Option.some.injEq, Prod.mk.injEq] at H
                        obtain ⟨rfl, rfl⟩ := H
                        go_wp2_with (first | ((with_reducible refine gate_callee (f := 79) rfl ?_); refine goesL_ (some 67) rfl rfl Try.func79 (by kernel_rfl) rfl #[.int .i64 x7_8, .int .i64 4294967296000000000] rfl (by (try simp only [List.map_toArray, List.map_cons, List.map_nil]); first | done | rfl | (simp only [List.length_drop, List.length_take]; rfl)) ?_; (with_reducible refine (fixed_Mul.calls x7_8 4294967296000000000 t258 true _ A18.out).mono ?_); rintro e w' ⟨rfl, ⟨nd, rfl⟩⟩; refine ⟨_, rfl, ?_⟩) | ((with_reducible refine gate_callee (f := 80) rfl ?_); refine goesL_ (some 73) rfl rfl Try.func80 (by kernel_rfl) rfl #[.int .i64 t258, .int .i64 x11_15] rfl (by (try simp only [List.map_toArray, List.map_cons, List.map_nil]); first | done | rfl | (simp only [List.length_drop, List.length_take]; rfl)) ?_; (with_reducible refine (fixed_Add.calls t258 x11_15 t260 true _ A19.out).mono ?_); rintro e w' ⟨rfl, ⟨nd, rfl⟩⟩; refine ⟨_, rfl, ?_⟩))
                        go_ret2
                        exact ⟨by first | rfl | (simp; done) | (simp [*]; done), by repeat (first | exact Drawn0.refl _ | apply Drawn0.step)⟩
                  · replace c21 := Bool.eq_false_iff.mpr c21
                    subst c21
                    have H1 : (some (0, 3)) = some (r1, r2) := by rw [if_neg (show ¬ (false = true) by decide)] at H; exact H
                    clear H
                    have H := H1
                    clear H1
                    simp only [Option.some.injEq, Prod.mk.injEq] at H
                    obtain ⟨rfl, rfl⟩ := H
                    go_wp2_with (first | ((with_reducible refine gate_callee (f := 79) rfl ?_); refine goesL_ (some 67) rfl rfl Try.func79 (by kernel_rfl) rfl #[.int .i64 x7_8, .int .i64 4294967296000000000] rfl (by (try simp only [List.map_toArray, List.map_cons, List.map_nil]); first | done | rfl | (simp only [List.length_drop, List.length_take]; rfl)) ?_; (with_reducible refine (fixed_Mul.calls x7_8 4294967296000000000 t258 true _ A18.out).mono ?_); rintro e w' ⟨rfl, ⟨nd, rfl⟩⟩; refine ⟨_, rfl, ?_⟩) | ((with_reducible refine gate_callee (f := 80) rfl ?_); refine goesL_ (some 73) rfl rfl Try.func80 (by kernel_rfl) rfl #[.int .i64 t258, .int .i64 x11_15] rfl (by (try simp only [List.map_toArray, List.map_cons, List.map_nil]); first | done | rfl | (simp only [List.length_drop, List.length_take]; rfl)) ?_; (with_reducible refine (fixed_Add.calls t258 x11_15 t260 false _ A19.out).mono ?_); rintro e w' ⟨rfl, ⟨nd, rfl⟩⟩; refine ⟨_, rfl, ?_⟩))
                    go_ret2
                    exact ⟨by first | rfl | (simp; done) | (simp [*]; done), by repeat (first | exact Drawn0.refl _ | apply Drawn0.step)⟩
                · replace c20 := Bool.eq_false_iff.mpr c20
                  subst c20
                  have H1 : (some (0, 3)) = some (r1, r2) := by rw [if_neg (show ¬ (false = true) by decide)] at H; exact H
                  clear H
                  have H := H1
                  clear H1
                  simp only [Option.some.injEq, Prod.mk.injEq] at H
                  obtain ⟨rfl, rfl⟩ := H
                  go_wp2_with (first | ((with_reducible refine gate_callee (f := 79) rfl ?_); refine goesL_ (some 67) rfl rfl Try.func79 (by kernel_rfl) rfl #[.int .i64 x7_8, .int .i64 4294967296000000000] rfl (by (try simp only [List.map_toArray, List.map_cons, List.map_nil]); first | done | rfl | (simp only [List.length_drop, List.length_take]; rfl)) ?_; (with_reducible refine (fixed_Mul.calls x7_8 4294967296000000000 t258 false _ A18.out).mono ?_); rintro e w' ⟨rfl, ⟨nd, rfl⟩⟩; refine ⟨_, rfl, ?_⟩) | ((with_reducible refine gate_callee (f := 80) rfl ?_); refine goesL_ (some 73) rfl rfl Try.func80 (by kernel_rfl) rfl #[.int .i64 t258, .int .i64 x11_15] rfl (by (try simp only [List.map_toArray, List.map_cons, List.map_nil]); first | done | rfl | (simp only [List.length_drop, List.length_take]; rfl)) ?_; (with_reducible refine (fixed_Add.calls t258 x11_15 t260 t261 _ A19.out).mono ?_); rintro e w' ⟨rfl, ⟨nd, rfl⟩⟩; refine ⟨_, rfl, ?_⟩))
                  go_ret2
                  exact ⟨by first | rfl | (simp; done) | (simp [*]; done), by repeat (first | exact Drawn0.refl _ | apply Drawn0.step)⟩

end Go.Proofs.Ytjbjkjlfikfeeaa.P
namespace Go.Proofs.Ytjbjkjlfikfeeaa.P
open Go.RowKit Go.Proofs.YtjbjkjlfikfeeaaW.PrintWords Go.Proofs.YtjbjkjlfikfeeaaW.PrintLast Go.Proofs.YtjbjkjlfikfeeaaW.PrintMore
attribute [local go_sem] max2_int min2_int max_two min_two max_three min_three max_four min_four Go.Proofs.Ytjbjkjlfikfeeaa.Op.isSome_setCell   -- for this text's walks alone
set_option linter.unusedVariables false
set_option linter.unusedSimpArgs false

/-! ### assoc_found: function 67 -/
def assoc_found.f (k : Nat) (a0 : Int) (a1 : Int) : Option (Int × Bool) := (stamp_Time.f k a0 (wrap64 (3900000000000000000 + a1))).bind fun bt262 => (if bt262.2 = 0 then ((assoc_inside.f (wrap64 (bt262.1 - 3900000000000000000))).bind fun t264 => (some (wrap64 (bt262.1 - 3900000000000000000), t264))) else (some (wrap64 (bt262.1 - 3900000000000000000), false)))
theorem assoc_found.mono : ∀ a0 a1 k, LeO (assoc_found.f k a0 a1) (assoc_found.f (k + 1) a0 a1) := by
  intro a0 a1 k
  unfold assoc_found.f
  repeat' first
      | (with_reducible exact stamp_Time.mono _ _ _)
      | (with_reducible exact LeO.refl _)
      | (with_reducible exact LeO.none _)
      | (with_reducible refine LeO.ite ?_ ?_)
      | (with_reducible refine LeO.bind ?_ (fun _ => ?_))
      | exact stamp_Time.mono _ _ _
      | exact LeO.none _
      | refine LeO.ite ?_ ?_
      | refine LeO.bind ?_ (fun _ => ?_)
set_option maxHeartbeats 8000000 in
set_option maxRecDepth 100000 in
theorem assoc_found.calls (k : Nat) (a0 : Int) (a1 : Int) (r1 : Int) (r2 : Bool) (w : World) (h : assoc_found.f k a0 a1 = some (r1, r2)) :
    Calls Try.prog 67 #[.int .u64 a0, .int .i64 a1] w fun e w' => e = .returned (.tuple #[.int .i64 r1, .bool r2]) ∧ Drawn0 w w' := by
  have H : ((stamp_Time.f k a0 (wrap64 (3900000000000000000 + a1))).bind fun bt262 => (if bt262.2 = 0 then ((assoc_inside.f (wrap64 (bt262.1 - 3900000000000000000))).bind fun t264 => (some (wrap64 (bt262.1 - 3900000000000000000), t264))) else (some (wrap64 (bt262.1 - 3900000000000000000), false)))) = some (r1, r2) := h
  clear h
  replace H := Option.bind_eq_some_iff.mp H
  obtain ⟨⟨t262, t263⟩, A30, H⟩ := H
  replace H : (if t263 = 0 then ((assoc_inside.f (wrap64 (t262 - 3900000000000000000))).bind fun t264 => (some (wrap64 (t262 - 3900000000000000000), t264))) else (some (wrap64 (t262 - 3900000000000000000), false))) = some (r1, r2) := H
  have A3 := Aside0.mk A30
  clear A30
  by_cases c4 : t263 = 0
  · rw [if_pos c4] at H
    have c4b0 : (t263 == 0) = true := beq_iff_eq.mpr c4
    have c4b1 : (t263 != 0) = false := bne_eq_false_iff_eq.mpr c4
    clear c4
    replace H := Option.bind_eq_some_iff.mp H
    obtain ⟨t264, A50, H⟩ := H
    replace H : (some (wrap64 (t262 - 3900000000000000000), t264)) = some (r1, r2) := H
    have A5 := Aside0.mk A50
    clear A50
    simp only [Option.some.injEq, Prod.mk.injEq] at H
    obtain ⟨rfl, rfl⟩ := H
    go_enter Try.func67, Try.ntmps67
    go_wp2_with (first | ((with_reducible refine gate_callee (f := 76) rfl ?_); refine goesL_ (some 12) rfl rfl Try.func76 (by kernel_rfl) rfl #[.int .u64 a0, .int .i64 (wrap64 (3900000000000000000 + a1))] rfl (by (try simp only [List.map_toArray, List.map_cons, List.map_nil]); first | done | rfl | (simp only [List.length_drop, List.length_take]; rfl)) ?_; (with_reducible refine (stamp_Time.calls k a0 (wrap64 (3900000000000000000 + a1)) t262 t263 _ A3.out).mono ?_); rintro e w' ⟨rfl, ⟨nd, rfl⟩⟩; refine ⟨_, rfl, ?_⟩) | (go_at_call 31; (with_reducible refine (assoc_inside.calls (wrap64 (t262 - 3900000000000000000)) t264 _ A5.out).mono ?_); rintro e w' ⟨rfl, ⟨nd, rfl⟩⟩))
    go_ret2
    exact ⟨by first | rfl | (simp; done) | (simp [*]; done), by repeat (first | exact Drawn0.refl _ | apply Drawn0.step)⟩
  · rw [if_neg c4] at H
    have c4b0 : (t263 == 0) = false := beq_eq_false_iff_ne.mpr c4
    have c4b1 : (t263 != 0) = true := bne_iff_ne.mpr c4
    simp only [Option.some.injEq, Prod.mk.injEq] at H
    obtain ⟨rfl, rfl⟩ := H
    go_enter Try.func67, Try.ntmps67
    go_wp2_with (first | ((with_reducible refine gate_callee (f := 76) rfl ?_); refine goesL_ (some 12) rfl rfl Try.func76 (by kernel_rfl) rfl #[.int .u64 a0, .int .i64 (wrap64 (3900000000000000000 + a1))] rfl (by (try simp only [List.map_toArray, List.map_cons, List.map_nil]); first | done | rfl | (simp only [List.length_drop, List.length_take]; rfl)) ?_; (with_reducible refine (stamp_Time.calls k a0 (wrap64 (3900000000000000000 + a1)) t262 t263 _ A3.out).mono ?_); rintro e w' ⟨rfl, ⟨nd, rfl⟩⟩; refine ⟨_, rfl, ?_⟩))
    go_ret2
    exact ⟨by first | rfl | (simp; done) | (simp [*]; done), by repeat (first | exact Drawn0.refl _ | apply Drawn0.step)⟩

end Go.Proofs.Ytjbjkjlfikfeeaa.P
/- An association hears a good reply: heard, Receive. -/
namespace Go.Proofs.Ytjbjkjlfikfeeaa.P
set_option linter.unusedVariables false
set_option linter.unusedSimpArgs false
open Go.RowKit Go.Proofs.YtjbjkjlfikfeeaaW.PrintWords Go.Proofs.YtjbjkjlfikfeeaaW.PrintLast Go.Proofs.YtjbjkjlfikfeeaaW.PrintMore Go.Proofs.Ytjbjkjlfikfeeaa.Rd
def hrd0 : List Value := [.int .i64 0, .string ⟨#[]⟩, .int .i64 0, .int .i64 0, .int .i64 0, .int .i64 0]
def HeardPost (w : World) (t1 t2 t3 t4 : Int) (e : Ending) (w' : World) : Prop := e = .returned (.agg #[.int .i64 7, .string ⟨#[]⟩, .int .i64 t1, .int .i64 t2, .int .i64 t3, .int .i64 t4]) ∧ Below w.heap.size w w'
/-- What is held while a reply is heard: the association, the header's cells, the answer's cells. -/
structure HSt (w W : World) (g g4 q : Nat) (v n t1 : Int) (p : List Value) : Prop where
  asc : Asc W g v n t1 true 0
  hdr : Blk W g4 p 46
  ans : Blk W q hrd0 64
  low : Below w.heap.size w W
  q0 : w.heap.size ≤ q
theorem HSt.below {w W W' : World} {g g4 q : Nat} {v n t1 : Int} {p : List Value} (h : HSt w W g g4 q v n t1 p) (hb : Below W.heap.size W W') : HSt w W' g g4 q v n t1 p :=
  ⟨blk_below h.asc hb, h.hdr.below hb, h.ans.below hb, below_step h.low hb, h.q0⟩
theorem HSt.ascs {w W : World} {g g4 q : Nat} {v n t1 : Int} {p : List Value} (h : HSt w W g g4 q v n t1 p) : W.cell? ⟨g, 1, none⟩ = some (.int .u64 n) ∧ W.cell? ⟨g, 2, none⟩ = some (.int .i64 t1) ∧ W.cell? ⟨g, 3, none⟩ = some (.bool true) ∧ W.cell? ⟨g, 4, none⟩ = some (.int .u64 0) :=
  ⟨(blk_cell h.asc 1).trans rfl, (blk_cell h.asc 2).trans rfl, (blk_cell h.asc 3).trans rfl, (blk_cell h.asc 4).trans rfl⟩
theorem results_blk1 {P : Program} {fn : Func} {p : Tmp} {ty : TypeId} (h : fn.results = #[.cell p ty]) (tmps : Array Value) (w : World) (g : Nat) (t : TypeId) (cs cs' : List Value) (d : TypeDesc) (hg : Blk w g cs t) (hcs : cs = cs')
    (hp : tmps.getD p undef = .pointer (some ⟨g, 0, none⟩))
    (hu : P.underlying ty = some d) (hd : (match d with | .struct _ | .array _ _ => true | _ => false) = true) (hi : (P.info? ty).map (·.size) = some cs'.length) :
    (results fn tmps).run P w = .ok (.agg cs'.toArray) w := by
  subst hcs
  have hp' : tmps[p]?.getD undef = .pointer (some ⟨g, 0, none⟩) := by simpa using hp
  simp [results, h, hp', asAddr, run_loadVar_row w g t ty cs.toArray (0, 0) d hg hu hd (by rw [hi]; simp)]
theorem blk_cells6 {w : World} {q : Nat} {t : TypeId} {v0 v1 v2 v3 v4 v5 : Value} (h : Blk w q [v0, v1, v2, v3, v4, v5] t) : w.cell? ⟨q, 0, none⟩ = some v0 ∧ w.cell? ⟨q, 1, none⟩ = some v1 ∧ w.cell? ⟨q, 2, none⟩ = some v2 ∧ w.cell? ⟨q, 3, none⟩ = some v3 ∧ w.cell? ⟨q, 4, none⟩ = some v4 ∧ w.cell? ⟨q, 5, none⟩ = some v5 ∧ w.frozen? ⟨q, 0, none⟩ = false ∧ w.frozen? ⟨q, 1, none⟩ = false ∧ w.frozen? ⟨q, 2, none⟩ = false ∧ w.frozen? ⟨q, 3, none⟩ = false ∧ w.frozen? ⟨q, 4, none⟩ = false ∧ w.frozen? ⟨q, 5, none⟩ = false :=
  ⟨h.cell 0, h.cell 1, h.cell 2, h.cell 3, h.cell 4, h.cell 5, h.free 0, h.free 1, h.free 2, h.free 3, h.free 4, h.free 5⟩
set_option maxHeartbeats 8000000 in
set_option maxRecDepth 100000 in
theorem assoc_heard (w : World) (g : Nat) (v n t1 now t2 t3 : Int) (L V S P C d1 d2 d3 e1 rc x : Int) (cd : ByteArray) (k : Nat) (hg : Hid (Asc w g v n t1 true 0)) (hn : (n == 0) = false) (hx : (x == 0) = false) (hx' : (x != 0) = true) (hne : decide (now < t1) = false) (ht : Hid (assoc_inside.f now = some true))
    (hc : Hid (ntpmsg_Check.f L V 4 S P C d1 d2 d3 e1 n rc x = some 0)) (hk : Hid (ntpmsg_Kiss.f k L V 4 S P C d1 d2 d3 e1 n rc x = some (cd, false))) (hs : Hid (ntpmsg_Synced.f L V 4 S P C d1 d2 d3 e1 n rc x = some true)) (h2 : Hid (assoc_found.f k rc now = some (t2, true))) (h3 : Hid (assoc_found.f k x now = some (t3, true))) (h32 : decide (t3 < t2) = false) :
    Calls Try.prog 46 #[.pointer (some ⟨g, 0, none⟩), .agg #[.int .i64 L, .int .i64 V, .int .i64 4, .int .i64 S, .int .i64 P, .int .i64 C, .int .u32 d1, .int .u32 d2, .int .u32 d3, .int .u64 e1, .int .u64 n, .int .u64 rc, .int .u64 x], .int .i64 now] w (HeardPost w t1 t2 t3 now) := by
  go_enter Try.func46, Try.ntmps46
  go_upto_region 2 with (first
    | ((with_reducible refine gate_dst (N := 4) rfl ?_); refine box_event ?hg (N := 4) ?hd (cs := #[.int .i64 L, .int .i64 V, .int .i64 4, .int .i64 S, .int .i64 P, .int .i64 C, .int .u32 d1, .int .u32 d2, .int .u32 d3, .int .u64 e1, .int .u64 n, .int .u64 rc, .int .u64 x]) (t := 46) ?hr ?_; (case hd => rfl); (case hg => rfl); (case hr => first | (go_simp; done) | (go_simp; rfl)); intro g4 hq w1 hbox hb1; have HA : Hid (Asc w1 g v n t1 true 0) := blk_below hg.out hb1; have HB := Lib.hid hb1; have HK : Hid (Blk w1 g4 [.int .i64 L, .int .i64 V, .int .i64 4, .int .i64 S, .int .i64 P, .int .i64 C, .int .u32 d1, .int .u32 d2, .int .u32 d3, .int .u64 e1, .int .u64 n, .int .u64 rc, .int .u64 x] 46) := hbox; clear hq hbox hb1)
    | ((with_reducible refine gate_dst (N := 6) rfl ?_); refine box_event ?hg (N := 6) ?hd (cs := hrd0.toArray) (t := 64) ?hr ?_; (case hd => rfl); (case hg => rfl); (case hr => first | (go_simp; done) | (go_simp; rfl)); intro q hq w2 hbox hb1; have HA2 : Hid (Asc w2 g v n t1 true 0) := blk_below HA.out hb1; have HB2 := Lib.hid (below_step HB.out hb1); have HK2 := Lib.hid (HK.out.below hb1); have HQ : Hid (w.heap.size ≤ q) := (by rw [hq]; exact HB.out.size); have HR : Hid (Blk w2 q hrd0 64) := hbox; clear HA HB HK hq hbox hb1; have y1 : w2.cell? ⟨g, 1, none⟩ = some (.int .u64 n) := (blk_cell HA2.out 1).trans rfl; have y2 : w2.cell? ⟨g, 2, none⟩ = some (.int .i64 t1) := (blk_cell HA2.out 2).trans rfl))
  have HS : Hid (HSt w w2 g g4 q v n t1 [.int .i64 L, .int .i64 V, .int .i64 4, .int .i64 S, .int .i64 P, .int .i64 C, .int .u32 d1, .int .u32 d2, .int .u32 d3, .int .u64 e1, .int .u64 n, .int .u64 rc, .int .u64 x]) := ⟨HA2.out, HK2.out, HR.out, HB2.out, HQ.out⟩
  clear HA2 HK2 HR HB2 HQ y1 y2
  obtain ⟨c0, c1, c2, c3, c4, c5, c6, c7, c8, c9, c10, c11, c12, -⟩ := blk_cells13 HS.out.hdr
  obtain ⟨y1, y2, y3, y4⟩ := HS.out.ascs
  go_upto_region 6 with (first
    | (go_at_call 51; refine (ntpmsg_Check.calls L V 4 S P C d1 d2 d3 e1 n rc x 0 _ hc.out).mono ?_; rintro e w5 ⟨rfl, hb⟩; (have hs9 := HS.out.below hb; clear HS c0 c1 c2 c3 c4 c5 c6 c7 c8 c9 c10 c11 c12 y1 y2 y3 y4 hb; obtain ⟨c0, c1, c2, c3, c4, c5, c6, c7, c8, c9, c10, c11, c12, -⟩ := blk_cells13 hs9.hdr; obtain ⟨y1, y2, y3, y4⟩ := hs9.ascs; have HS := Lib.hid hs9; clear hs9))
    | (go_at_call 31; refine (assoc_inside.calls now true _ ht.out).mono ?_; rintro e w5 ⟨rfl, hd⟩; have hb := hd.below; clear hd; (have hs9 := HS.out.below hb; clear HS c0 c1 c2 c3 c4 c5 c6 c7 c8 c9 c10 c11 c12 y1 y2 y3 y4 hb; obtain ⟨c0, c1, c2, c3, c4, c5, c6, c7, c8, c9, c10, c11, c12, -⟩ := blk_cells13 hs9.hdr; obtain ⟨y1, y2, y3, y4⟩ := hs9.ascs; have HS := Lib.hid hs9; clear hs9)))
  go_quiet (fail)
  go_upto_region 8 with (fail)
  refine here4a (fun w' => Hid (HSt w w' g g4 q v n t1 [.int .i64 L, .int .i64 V, .int .i64 4, .int .i64 S, .int .i64 P, .int .i64 C, .int .u32 d1, .int .u32 d2, .int .u32 d3, .int .u64 e1, .int .u64 n, .int .u64 rc, .int .u64 x])) (HS.out.below (pw_below_drewN (Below.refl _ _) _)) ?_
  clear HS c0 c1 c2 c3 c4 c5 c6 c7 c8 c9 c10 c11 c12 y1 y2 y3 y4
  intro w5 HS
  obtain ⟨c0, c1, c2, c3, c4, c5, c6, c7, c8, c9, c10, c11, c12, -⟩ := blk_cells13 HS.out.hdr
  obtain ⟨y1, y2, y3, y4⟩ := HS.out.ascs
  go_cut [64] (fun v64 wc => v64 = .bool false ∧ Hid (HSt w wc g g4 q v n t1 [.int .i64 L, .int .i64 V, .int .i64 4, .int .i64 S, .int .i64 P, .int .i64 C, .int .u32 d1, .int .u32 d2, .int .u32 d3, .int .u64 e1, .int .u64 n, .int .u64 rc, .int .u64 x]))
  case first =>
    go_region_with (fail)
    all_goals
      go_wp2
      go_meet
      case rel => exact ⟨rfl, HS.out.below (pw_below_drewN (Below.refl _ _) _)⟩
  case rest =>
    clear HS c0 c1 c2 c3 c4 c5 c6 c7 c8 c9 c10 c11 c12 y1 y2 y3 y4
    obtain ⟨rfl, HS⟩ := hcut
    obtain ⟨c0, c1, c2, c3, c4, c5, c6, c7, c8, c9, c10, c11, c12, -⟩ := blk_cells13 HS.out.hdr
    obtain ⟨y1, y2, y3, y4⟩ := HS.out.ascs
    go_upto_region 15 with (first
      | (go_at_call 66; refine (ntpmsg_Kiss.calls k L V 4 S P C d1 d2 d3 e1 n rc x cd false _ hk.out).mono ?_; rintro e w5 ⟨rfl, hb⟩; (have hs9 := HS.out.below hb; clear HS c0 c1 c2 c3 c4 c5 c6 c7 c8 c9 c10 c11 c12 y1 y2 y3 y4 hb; obtain ⟨c0, c1, c2, c3, c4, c5, c6, c7, c8, c9, c10, c11, c12, -⟩ := blk_cells13 hs9.hdr; obtain ⟨y1, y2, y3, y4⟩ := hs9.ascs; have HS := Lib.hid hs9; clear hs9))
      | (go_at_call 53; refine (ntpmsg_Synced.calls L V 4 S P C d1 d2 d3 e1 n rc x true _ hs.out).mono ?_; rintro e w5 ⟨rfl, hb⟩; (have hs9 := HS.out.below hb; clear HS c0 c1 c2 c3 c4 c5 c6 c7 c8 c9 c10 c11 c12 y1 y2 y3 y4 hb; obtain ⟨c0, c1, c2, c3, c4, c5, c6, c7, c8, c9, c10, c11, c12, -⟩ := blk_cells13 hs9.hdr; obtain ⟨y1, y2, y3, y4⟩ := hs9.ascs; have HS := Lib.hid hs9; clear hs9)))
    go_upto_region 16 with (go_at_call_of 67 rc; refine (assoc_found.calls k rc now t2 true _ h2.out).mono ?_; rintro e w5 ⟨rfl, hd⟩; have hb := hd.below; clear hd; (have hs9 := HS.out.below hb; clear HS c0 c1 c2 c3 c4 c5 c6 c7 c8 c9 c10 c11 c12 y1 y2 y3 y4 hb; obtain ⟨c0, c1, c2, c3, c4, c5, c6, c7, c8, c9, c10, c11, c12, -⟩ := blk_cells13 hs9.hdr; obtain ⟨y1, y2, y3, y4⟩ := hs9.ascs; have HS := Lib.hid hs9; clear hs9))
    go_upto_region 17 with (go_at_call_of 67 x; refine (assoc_found.calls k x now t3 true _ h3.out).mono ?_; rintro e w5 ⟨rfl, hd⟩; have hb := hd.below; clear hd; (have hs9 := HS.out.below hb; clear HS c0 c1 c2 c3 c4 c5 c6 c7 c8 c9 c10 c11 c12 y1 y2 y3 y4 hb; obtain ⟨c0, c1, c2, c3, c4, c5, c6, c7, c8, c9, c10, c11, c12, -⟩ := blk_cells13 hs9.hdr; obtain ⟨y1, y2, y3, y4⟩ := hs9.ascs; have HS := Lib.hid hs9; clear hs9))
    go_upto_region 19 with (fail)
    obtain ⟨k0, k1, k2, k3, k4, k5, f0, f1, f2, f3, f4, f5⟩ := blk_cells6 HS.out.ans
    go_wp2_with (fail)
    (try simp only [Exit.inBlock, Exit.then])
    refine bodyPost_ret (results_blk1 rfl _ _ q 64 _ [.int .i64 7, .string ⟨#[]⟩, .int .i64 t1, .int .i64 t2, .int .i64 t3, .int .i64 now] _ ((((((HS.out.ans.store 0 _).store 1 _).store 2 _).store 3 _).store 4 _).store 5 _) rfl rfl Try.underlying64 rfl (by kernel_rfl)) rfl ?_
    exact ⟨rfl, (((((HS.out.low.setCell (p := ⟨q, 0, none⟩) HS.out.q0 _).setCell (p := ⟨q, 1, none⟩) HS.out.q0 _).setCell (p := ⟨q, 2, none⟩) HS.out.q0 _).setCell (p := ⟨q, 3, none⟩) HS.out.q0 _).setCell (p := ⟨q, 4, none⟩) HS.out.q0 _).setCell (p := ⟨q, 5, none⟩) HS.out.q0 _⟩
end Go.Proofs.Ytjbjkjlfikfeeaa.P
