/- The law ServerRoundTrip at an interval that is none: Field answers an error. -/
import Derived.Test.YthneihebdlppeaaPureIv30
import Derived.Test.YthneihebdlppeaaPureAwk30
import Derived.Test.YthneihebdlppeaaPx30
import Derived.Test.YthneihebdlppeaaPx2
import Derived.Deep.RegionLaw
import Derived.Deep.RegionWith
namespace Go.Proofs.Ythneihebdlppeaa.P
set_option linter.unusedVariables false
set_option linter.unusedSimpArgs false
open Go.RowKit Go.Proofs.YthneihebdlppeaaW.PrintWords Go.Proofs.YthneihebdlppeaaW.PrintLast Go.Proofs.YthneihebdlppeaaW.PrintMore
theorem C_zero (A : Option Addr) (w : World) : Kd.C (Kd.int .u8) w A 0 [] := ⟨rfl, by decide, fun h => absurd h (by decide)⟩
theorem same30_nil : timesynclaw30_same.f 200 0 [] 0 [] = some true := by kernel_rfl
theorem here4b {P : Program} {C : Code} {Q : Exit → Act → World → Prop} {a : Act} {w : World} (I : World → Prop) (h : I w) (H : ∀ w', I w' → Code.wp P C Q a w') : Code.wp P C Q a w := H w h
set_option maxHeartbeats 8000000 in
set_option maxRecDepth 100000 in
theorem trip30_bad (lo hi : Int) (V1 V2 : Value) (w : World) (hF : Hid (server_Field.f lo hi = some (0, [], 2))) (b1 b2 b3 : Bool) (t1 : decide (hi < lo) = b1) (t2 : decide (lo < -8000000000000000000) = b2) (t3 : decide (8000000000000000000 < hi) = b3) (hb : (b1 || b2 || b3) = true) :
    Calls Try.prog 8 #[.agg #[.int .i64 lo, .int .i64 hi], V1, V2] w fun e w' => e = .returned (.bool true) ∧ Below w.heap.size w w' := by
  go_enter Try.func8, Try.ntmps8
  have h3 : b1 = true ∨ (b1 = false ∧ b2 = true) ∨ (b1 = false ∧ b2 = false ∧ b3 = true) := by cases b1 <;> cases b2 <;> cases b3 <;> simp_all
  rcases h3 with rfl | ⟨rfl, rfl⟩ | ⟨rfl, rfl, rfl⟩
  all_goals
    clear hb
    go_upto_region 3 with (first
      | ((with_reducible refine gate_dst (N := 3) rfl ?_); refine box_event ?hg (N := 3) ?hd (cs := #[.int .i64 lo, .int .i64 hi]) (t := 46) ?hr ?_; (case hd => rfl); (case hg => rfl); (case hr => first | (go_simp; done) | (go_simp; rfl)); intro g3 hq w1 hbox hb1; have z0 := (blk_cell hbox 0).trans rfl; have z1 := (blk_cell hbox 1).trans rfl; have HB3 := Lib.hid hbox; have HB := Lib.hid hb1; clear hq hbox hb1)
      | (go_at_call 18; (with_reducible refine (server_Field.calls lo hi _ _ _ _ hF.out).mono ?_); rintro e w2 ⟨v, rfl, ho, hb⟩; obtain ⟨Ax, cx, rfl⟩ := Kd.R_slice ho; rw [List.length_nil] at ho ⊢; have hb3 := blk_below HB3.out hb; have hbw := below_step HB.out hb; clear HB3 HB z0 z1; have z0 := (blk_cell hb3 0).trans rfl; have z1 := (blk_cell hb3 1).trans rfl; have HB3 := Lib.hid hb3; have HB := Lib.hid hbw; clear hb3 hbw ho hb)
      | ((with_reducible refine gate_dst (N := 7) rfl ?_); refine box_event ?hg (N := 7) ?hd (cs := #[.int .i64 0, .slice none 0 0]) (t := 50) ?hr ?_; (case hd => rfl); (case hg => rfl); (case hr => first | (go_simp; done) | (go_simp; rfl)); intro g7 hq w3 hbox hb1; have hst := below_step HB.out ((hb1.setCell (p := ⟨g7, 0, none⟩) (Nat.le_of_eq hq.symm) (.int .i64 0)).setCell (p := ⟨g7, 1, none⟩) (Nat.le_of_eq hq.symm) (.slice Ax 0 cx)); have HBX := Lib.hid (blk_put (blk_put hbox 0 (.int .i64 0) rfl) 1 (.slice Ax 0 cx) rfl); have z2 := (blk_cell hbox 0).trans rfl; have z3 := (blk_cell hbox 1).trans rfl; have y2 := blk_frozen hbox 0; have y3 := blk_frozen hbox 1; replace z0 := (hb1.cell (World.block_lt_of_cell? _ _ z0)).trans z0; replace z1 := (hb1.cell (World.block_lt_of_cell? _ _ z1)).trans z1; have hne : g3 ≠ g7 := (by have := blk_lt HB3.out; omega); clear HB3 HB; have HB := Lib.hid hst; clear hst hq hbox hb1))
    refine here4b (fun w' => Hid (w'.heap[g7]? = some (.cells #[.int .i64 0, .slice Ax 0 cx] 50 (0, 0))) ∧ Hid (Below w.heap.size w w')) ⟨HBX, HB⟩ ?_
    clear HBX HB z0 z1 z2 z3 y2 y3 hne t1 t2 t3
    rintro w6 ⟨HBX, HB⟩
    have z2 : w6.cell? ⟨g7, 0, none⟩ = some (.int .i64 0) := (blk_cell HBX.out 0).trans rfl
    have z3 : w6.cell? ⟨g7, 1, none⟩ = some (.slice Ax 0 cx) := (blk_cell HBX.out 1).trans rfl
    clear HBX
    go_wp2_with (first
      | (go_at_call 22; go_loud (refine (timesynclaw30_same.calls 200 0 Ax cx [] 0 none 0 [] true _ (C_zero _ _) (Nat.zero_le _) (C_zero _ _) (Nat.le_refl _) same30_nil).mono ?_; rintro e w4 ⟨rfl, hb⟩; have hb2 := below_step HB.out hb; clear HB z2 z3; have HB := Lib.hid hb2; clear hb hb2))
      | (go_at_call 11; go_loud (refine (timesynclaw30_awake.calls 100 true _ awk30_ok).mono ?_; rintro e w5 ⟨rfl, hb⟩; have hb2 := below_step HB.out hb; clear HB; have HB := Lib.hid hb2; clear hb hb2)))
    go_ret
    exact ⟨rfl, HB.out⟩
end Go.Proofs.Ythneihebdlppeaa.P
