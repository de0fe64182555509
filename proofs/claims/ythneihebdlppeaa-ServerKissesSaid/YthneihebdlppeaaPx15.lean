-- Written by xp.py, a program of this session, over the print of the loaded program; Lean checks it.
import Derived.Test.YthneihebdlppeaaPx0
import Derived.Test.YthneihebdlppeaaPx14
namespace Go.Proofs.Ythneihebdlppeaa.P
open Go.RowKit Go.Proofs.YthneihebdlppeaaW.PrintWords Go.Proofs.YthneihebdlppeaaW.PrintLast Go.Proofs.YthneihebdlppeaaW.PrintMore
attribute [local go_sem] max2_int min2_int max_two min_two max_three min_three max_four min_four Go.Proofs.Ythneihebdlppeaa.Op.isSome_setCell   -- for this text's walks alone
set_option linter.unusedVariables false
set_option linter.unusedSimpArgs false

/-! ### timesyncref03_Short: function 53 -/
def timesyncref03_Short.f (a0 : Int) : Option (Int × Int) := if a0 < 0 then (some (0, 3)) else ((timesyncref03_split.f a0).bind fun bt132 => (if (wrap64 ((wrap64 (bt132.1 * 65536)) + (wrap64 (Int.tdiv (wrap64 ((wrap64 ((wrap64 (bt132.2 * 65536)) + 1000000000)) - 1)) 1000000000)))) > 4294967295 then (some (0, 3)) else (some ((wrap64 ((wrap64 (bt132.1 * 65536)) + (wrap64 (Int.tdiv (wrap64 ((wrap64 ((wrap64 (bt132.2 * 65536)) + 1000000000)) - 1)) 1000000000)))) % 4294967296, 0))))
set_option maxHeartbeats 8000000 in
set_option maxRecDepth 100000 in
theorem timesyncref03_Short.calls (a0 : Int) (r1 : Int) (r2 : Int) (w : World) (h : timesyncref03_Short.f a0 = some (r1, r2)) :
    Calls Try.prog 53 #[.int .i64 a0] w fun e w' => e = .returned (.tuple #[.int .u32 r1, .int .i64 r2]) ∧ Drawn0 w w' := by
  have H : (if a0 < 0 then (some (0, 3)) else ((timesyncref03_split.f a0).bind fun bt132 => (if (wrap64 ((wrap64 (bt132.1 * 65536)) + (wrap64 (Int.tdiv (wrap64 ((wrap64 ((wrap64 (bt132.2 * 65536)) + 1000000000)) - 1)) 1000000000)))) > 4294967295 then (some (0, 3)) else (some ((wrap64 ((wrap64 (bt132.1 * 65536)) + (wrap64 (Int.tdiv (wrap64 ((wrap64 ((wrap64 (bt132.2 * 65536)) + 1000000000)) - 1)) 1000000000)))) % 4294967296, 0))))) = some (r1, r2) := h
  clear h
  by_cases c2 : a0 < 0
  · rw [if_pos c2] at H
    have c2b0 : decide (a0 < 0) = true := decide_eq_true c2
    clear c2
    simp only [Option.some.injEq, Prod.mk.injEq] at H
    obtain ⟨rfl, rfl⟩ := H
    go_enter Try.func53, Try.ntmps53
    go_wp2
    go_ret2
    exact ⟨by first | rfl | (simp; done) | (simp [*]; done), by repeat (first | exact Drawn0.refl _ | apply Drawn0.step)⟩
  · rw [if_neg c2] at H
    have c2b0 : decide (a0 < 0) = false := decide_eq_false c2
    clear c2
    replace H := Option.bind_eq_some_iff.mp H
    obtain ⟨⟨t132, t133⟩, A30, H⟩ := H
    replace H : (if (wrap64 ((wrap64 (t132 * 65536)) + (wrap64 (Int.tdiv (wrap64 ((wrap64 ((wrap64 (t133 * 65536)) + 1000000000)) - 1)) 1000000000)))) > 4294967295 then (some (0, 3)) else (some ((wrap64 ((wrap64 (t132 * 65536)) + (wrap64 (Int.tdiv (wrap64 ((wrap64 ((wrap64 (t133 * 65536)) + 1000000000)) - 1)) 1000000000)))) % 4294967296, 0))) = some (r1, r2) := H
    have A3 := Aside0.mk A30
    clear A30
    by_cases c4 : (wrap64 ((wrap64 (t132 * 65536)) + (wrap64 (Int.tdiv (wrap64 ((wrap64 ((wrap64 (t133 * 65536)) + 1000000000)) - 1)) 1000000000)))) > 4294967295
    · rw [if_pos c4] at H
      have c4b0 : decide (4294967295 < (wrap64 ((wrap64 (t132 * 65536)) + (wrap64 (Int.tdiv (wrap64 ((wrap64 ((wrap64 (t133 * 65536)) + 1000000000)) - 1)) 1000000000))))) = true := decide_eq_true c4
      clear c4
      simp only [Option.some.injEq, Prod.mk.injEq] at H
      obtain ⟨rfl, rfl⟩ := H
      go_enter Try.func53, Try.ntmps53
      go_wp2_with (first | ((with_reducible refine gate_callee (f := 59) rfl ?_); refine goesL_ (some 11) rfl rfl Try.func59 (by kernel_rfl) rfl #[.int .i64 a0] rfl (by (try simp only [List.map_toArray, List.map_cons, List.map_nil]); first | done | rfl | (simp only [List.length_drop, List.length_take]; rfl)) ?_; (with_reducible refine (timesyncref03_split.calls a0 t132 t133 _ A3.out).mono ?_); rintro e w' ⟨rfl, ⟨nd, rfl⟩⟩; refine ⟨_, rfl, ?_⟩))
      go_ret2
      exact ⟨by first | rfl | (simp; done) | (simp [*]; done), by repeat (first | exact Drawn0.refl _ | apply Drawn0.step)⟩
    · rw [if_neg c4] at H
      have c4b0 : decide (4294967295 < (wrap64 ((wrap64 (t132 * 65536)) + (wrap64 (Int.tdiv (wrap64 ((wrap64 ((wrap64 (t133 * 65536)) + 1000000000)) - 1)) 1000000000))))) = false := decide_eq_false c4
      clear c4
      simp only [Option.some.injEq, Prod.mk.injEq] at H
      obtain ⟨rfl, rfl⟩ := H
      go_enter Try.func53, Try.ntmps53
      go_wp2_with (first | ((with_reducible refine gate_callee (f := 59) rfl ?_); refine goesL_ (some 11) rfl rfl Try.func59 (by kernel_rfl) rfl #[.int .i64 a0] rfl (by (try simp only [List.map_toArray, List.map_cons, List.map_nil]); first | done | rfl | (simp only [List.length_drop, List.length_take]; rfl)) ?_; (with_reducible refine (timesyncref03_split.calls a0 t132 t133 _ A3.out).mono ?_); rintro e w' ⟨rfl, ⟨nd, rfl⟩⟩; refine ⟨_, rfl, ?_⟩))
      go_ret2
      exact ⟨by first | rfl | (simp; done) | (simp [*]; done), by repeat (first | exact Drawn0.refl _ | apply Drawn0.step)⟩

end Go.Proofs.Ythneihebdlppeaa.P
