-- Written by xp.py, a program of this session, over the print of the loaded program; Lean checks it.
import Derived.Test.YthneihebdlppeaaPx0
namespace Go.Proofs.Ythneihebdlppeaa.P
open Go.RowKit Go.Proofs.YthneihebdlppeaaW.PrintWords Go.Proofs.YthneihebdlppeaaW.PrintLast Go.Proofs.YthneihebdlppeaaW.PrintMore
attribute [local go_sem] max2_int min2_int max_two min_two max_three min_three max_four min_four Go.Proofs.Ythneihebdlppeaa.Op.isSome_setCell   -- for this text's walks alone
set_option linter.unusedVariables false
set_option linter.unusedSimpArgs false

/-! ### stamp_Long: function 13 -/
def stamp_Long.f (a0 : Int) : Option (Int) := some ((wrap64 ((wrap64 ((wrap64 ((wrap64 (a0)) * 1000000000)) + 65536)) - 1)) / 65536)
set_option maxHeartbeats 8000000 in
set_option maxRecDepth 100000 in
theorem stamp_Long.calls (a0 : Int) (r : Int) (w : World) (h : stamp_Long.f a0 = some r) :
    Calls Try.prog 13 #[.int .u32 a0] w fun e w' => e = .returned (.int .i64 r) ∧ Drawn0 w w' := by
  have H : (some ((wrap64 ((wrap64 ((wrap64 ((wrap64 (a0)) * 1000000000)) + 65536)) - 1)) / 65536)) = some r := h
  clear h
  obtain rfl := Option.some.inj H
  go_enter Try.func13, Try.ntmps13
  go_wp2
  go_ret
  exact ⟨by first | rfl | (simp; done) | (simp [*]; done), by repeat (first | exact Drawn0.refl _ | apply Drawn0.step)⟩

end Go.Proofs.Ythneihebdlppeaa.P
