/- Texts of this claim, laid together: each says itself what it proves. -/
import Derived.Test.YtjbjkjlfikfeeaaM1
import Derived.Test.YtjbjkjlfikfeeaaM5
import Derived.Test.YtjbjkjlfikfeeaaM6
import Derived.Test.YtjbjkjlfikfeeaaM20
import Derived.Test.YtjbjkjlfikfeeaaM4
namespace Go.Proofs.Ytjbjkjlfikfeeaa.P
open Go.RowKit Go.Proofs.YtjbjkjlfikfeeaaW.PrintWords Go.Proofs.YtjbjkjlfikfeeaaW.PrintLast Go.Proofs.YtjbjkjlfikfeeaaW.PrintMore
attribute [local go_sem] max2_int min2_int max_two min_two max_three min_three max_four min_four Go.Proofs.Ytjbjkjlfikfeeaa.Op.isSome_setCell   -- for this text's walks alone
set_option linter.unusedVariables false
set_option linter.unusedSimpArgs false

/-! ### ntpmsg_Encode: function 35 -/
def ntpmsg_Encode.f (k : Nat) (a0_0 : Int) (a0_1 : Int) (a0_2 : Int) (a0_3 : Int) (a0_4 : Int) (a0_5 : Int) (a0_6 : Int) (a0_7 : Int) (a0_8 : Int) (a0_9 : Int) (a0_10 : Int) (a0_11 : Int) (a0_12 : Int) : Option (List Int × Int) := (ntpmsg_Check.f a0_0 a0_1 a0_2 a0_3 a0_4 a0_5 a0_6 a0_7 a0_8 a0_9 a0_10 a0_11 a0_12).bind fun t182 => (if t182 = 0 then ((ntpmsg_put.f k (([(⟨IntKind.u64.wrap (Go.bits .or .i64 (Go.bits .or .i64 (wrap64 (a0_0 * 64)) (wrap64 (a0_1 * 8))) a0_2), 1⟩ : S133), (⟨IntKind.u64.wrap (a0_3), 1⟩ : S133), (⟨(a0_4) % 256, 1⟩ : S133), (⟨(a0_5) % 256, 1⟩ : S133), (⟨IntKind.u64.wrap (a0_6), 4⟩ : S133), (⟨IntKind.u64.wrap (a0_7), 4⟩ : S133), (⟨IntKind.u64.wrap (a0_8), 4⟩ : S133), (⟨a0_9, 8⟩ : S133), (⟨a0_10, 8⟩ : S133), (⟨a0_11, 8⟩ : S133), (⟨a0_12, 8⟩ : S133)] : List (S133)))).bind fun t186 => (some (t186, 0))) else (some (([] : List Int), t182)))
theorem ntpmsg_Encode.mono : ∀ a0 a1 a2 a3 a4 a5 a6 a7 a8 a9 a10 a11 a12 k, LeO (ntpmsg_Encode.f k a0 a1 a2 a3 a4 a5 a6 a7 a8 a9 a10 a11 a12) (ntpmsg_Encode.f (k + 1) a0 a1 a2 a3 a4 a5 a6 a7 a8 a9 a10 a11 a12) := by
  intro a0 a1 a2 a3 a4 a5 a6 a7 a8 a9 a10 a11 a12 k
  unfold ntpmsg_Encode.f
  repeat' first
      | (with_reducible exact ntpmsg_put.mono _ _)
      | (with_reducible exact LeO.refl _)
      | (with_reducible exact LeO.none _)
      | (with_reducible refine LeO.ite ?_ ?_)
      | (with_reducible refine LeO.bind ?_ (fun _ => ?_))
      | exact ntpmsg_put.mono _ _
      | exact LeO.none _
      | refine LeO.ite ?_ ?_
      | refine LeO.bind ?_ (fun _ => ?_)
set_option maxHeartbeats 8000000 in
set_option maxRecDepth 100000 in
theorem ntpmsg_Encode.calls (k : Nat) (a0_0 : Int) (a0_1 : Int) (a0_2 : Int) (a0_3 : Int) (a0_4 : Int) (a0_5 : Int) (a0_6 : Int) (a0_7 : Int) (a0_8 : Int) (a0_9 : Int) (a0_10 : Int) (a0_11 : Int) (a0_12 : Int) (r1 : List Int) (r2 : Int) (w : World) (h : ntpmsg_Encode.f k a0_0 a0_1 a0_2 a0_3 a0_4 a0_5 a0_6 a0_7 a0_8 a0_9 a0_10 a0_11 a0_12 = some (r1, r2)) :
    Calls Try.prog 35 #[.agg #[.int .i64 a0_0, .int .i64 a0_1, .int .i64 a0_2, .int .i64 a0_3, .int .i64 a0_4, .int .i64 a0_5, .int .u32 a0_6, .int .u32 a0_7, .int .u32 a0_8, .int .u64 a0_9, .int .u64 a0_10, .int .u64 a0_11, .int .u64 a0_12]] w fun e w' => ∃ v0_ : Value, e = .returned (.tuple #[v0_, .int .i64 r2]) ∧ Kd.R (Kd.int .u8) 5 w' w.heap.size (fun _ => True) v0_ r1 ∧ Below w.heap.size w w' := by
  have hu46 := Try.underlying46
  have hu133 := Try.underlying133
  have HB := Aside0.mk (Below.refl w.heap.size w)
  have H : ((ntpmsg_Check.f a0_0 a0_1 a0_2 a0_3 a0_4 a0_5 a0_6 a0_7 a0_8 a0_9 a0_10 a0_11 a0_12).bind fun t182 => (if t182 = 0 then ((ntpmsg_put.f k (([(⟨IntKind.u64.wrap (Go.bits .or .i64 (Go.bits .or .i64 (wrap64 (a0_0 * 64)) (wrap64 (a0_1 * 8))) a0_2), 1⟩ : S133), (⟨IntKind.u64.wrap (a0_3), 1⟩ : S133), (⟨(a0_4) % 256, 1⟩ : S133), (⟨(a0_5) % 256, 1⟩ : S133), (⟨IntKind.u64.wrap (a0_6), 4⟩ : S133), (⟨IntKind.u64.wrap (a0_7), 4⟩ : S133), (⟨IntKind.u64.wrap (a0_8), 4⟩ : S133), (⟨a0_9, 8⟩ : S133), (⟨a0_10, 8⟩ : S133), (⟨a0_11, 8⟩ : S133), (⟨a0_12, 8⟩ : S133)] : List (S133)))).bind fun t186 => (some (t186, 0))) else (some (([] : List Int), t182)))) = some (r1, r2) := h
  clear h
  replace H := Option.bind_eq_some_iff.mp H
  obtain ⟨t182, A20, H⟩ := H
  replace H : (if t182 = 0 then ((ntpmsg_put.f k (([(⟨IntKind.u64.wrap (Go.bits .or .i64 (Go.bits .or .i64 (wrap64 (a0_0 * 64)) (wrap64 (a0_1 * 8))) a0_2), 1⟩ : S133), (⟨IntKind.u64.wrap (a0_3), 1⟩ : S133), (⟨(a0_4) % 256, 1⟩ : S133), (⟨(a0_5) % 256, 1⟩ : S133), (⟨IntKind.u64.wrap (a0_6), 4⟩ : S133), (⟨IntKind.u64.wrap (a0_7), 4⟩ : S133), (⟨IntKind.u64.wrap (a0_8), 4⟩ : S133), (⟨a0_9, 8⟩ : S133), (⟨a0_10, 8⟩ : S133), (⟨a0_11, 8⟩ : S133), (⟨a0_12, 8⟩ : S133)] : List (S133)))).bind fun t186 => (some (t186, 0))) else (some (([] : List Int), t182))) = some (r1, r2) := H
  have A2 := Aside0.mk A20
  clear A20
  by_cases c3 : t182 = 0
  · rw [if_pos c3] at H
    have c3b0 : (t182 == 0) = true := beq_iff_eq.mpr c3
    have c3b1 : (t182 != 0) = false := bne_eq_false_iff_eq.mpr c3
    clear c3
    obtain ⟨y183, hy183⟩ : ∃ y_ : List (S133), y_ = (([(⟨IntKind.u64.wrap (Go.bits .or .i64 (Go.bits .or .i64 (wrap64 (a0_0 * 64)) (wrap64 (a0_1 * 8))) a0_2), 1⟩ : S133), (⟨IntKind.u64.wrap (a0_3), 1⟩ : S133), (⟨(a0_4) % 256, 1⟩ : S133), (⟨(a0_5) % 256, 1⟩ : S133), (⟨IntKind.u64.wrap (a0_6), 4⟩ : S133), (⟨IntKind.u64.wrap (a0_7), 4⟩ : S133), (⟨IntKind.u64.wrap (a0_8), 4⟩ : S133), (⟨a0_9, 8⟩ : S133), (⟨a0_10, 8⟩ : S133), (⟨a0_11, 8⟩ : S133), (⟨a0_12, 8⟩ : S133)] : List (S133))) := ⟨_, rfl⟩
    replace H : ((ntpmsg_put.f k y183).bind fun t186 => (some (t186, 0))) = some (r1, r2) := by first | (rw [hy183]; with_reducible exact H) | (have H2_ := (Option.bind_some _ _).symm.trans H; rw [hy183]; with_reducible exact H2_) | (have H2_ := (Option.bind_some _ _).symm.trans H; with_reducible exact H2_) | with_reducible exact H | (rw [hy183]; exact H) | exact H
    have Ny183 := Aside0.mk hy183
    clear hy183
    replace H := Option.bind_eq_some_iff.mp H
    obtain ⟨t186, A40, H⟩ := H
    replace H : (some (t186, 0)) = some (r1, r2) := H
    have A4 := Aside0.mk A40
    clear A40
    simp only [Option.some.injEq, Prod.mk.injEq] at H
    obtain ⟨rfl, rfl⟩ := H
    go_enter Try.func35, Try.ntmps35
    go_wp2_with (first | ((with_reducible refine gate_dst (N := 1) rfl ?_); refine box_event ?hg (N := 1) ?hd (cs := #[.int .i64 a0_0, .int .i64 a0_1, .int .i64 a0_2, .int .i64 a0_3, .int .i64 a0_4, .int .i64 a0_5, .int .u32 a0_6, .int .u32 a0_7, .int .u32 a0_8, .int .u64 a0_9, .int .u64 a0_10, .int .u64 a0_11, .int .u64 a0_12]) (t := 46) ?hr ?_; (case hd => rfl); (case hg => rfl); (case hr => first | (go_simp; done) | (go_simp; rfl)); intro gb181 hg w5 hbox hb; have n0_ := Aside0.mk (below_step (by repeat (first | (with_reducible first | exact HB.out | apply below_alloc | apply pw_below_drewN | apply below_drew1) | exact HB.out)) hb); have n1_ := Aside0.mk (hbox); have n2_ := Aside0.mk ((by rw [hg]; exact (below_size (by repeat (first | (with_reducible first | exact HB.out | apply below_alloc | apply pw_below_drewN | apply below_drew1) | exact HB.out))) : w.heap.size ≤ gb181)); have n3_ := Aside0.mk ((by rw [hg]; exact (below_size (by repeat (first | (with_reducible first | exact HB.out | apply below_alloc | apply pw_below_drewN | apply below_drew1) | exact HB.out))) : w.heap.size ≤ gb181)); clear HB; have HB := n0_; have BK181 := n1_; have GW181 := n2_; have GE181 := n3_; clear n0_ n1_ n2_ n3_; clear hb hbox hg; have hcz6_0 : w5.cell? ⟨gb181, 0, none⟩ = some (.int .i64 a0_0) := (blk_cell BK181.out 0).trans rfl; have hcz6_1 : w5.cell? ⟨gb181, 1, none⟩ = some (.int .i64 a0_1) := (blk_cell BK181.out 1).trans rfl; have hcz6_2 : w5.cell? ⟨gb181, 2, none⟩ = some (.int .i64 a0_2) := (blk_cell BK181.out 2).trans rfl; have hcz6_3 : w5.cell? ⟨gb181, 3, none⟩ = some (.int .i64 a0_3) := (blk_cell BK181.out 3).trans rfl; have hcz6_4 : w5.cell? ⟨gb181, 4, none⟩ = some (.int .i64 a0_4) := (blk_cell BK181.out 4).trans rfl; have hcz6_5 : w5.cell? ⟨gb181, 5, none⟩ = some (.int .i64 a0_5) := (blk_cell BK181.out 5).trans rfl; have hcz6_6 : w5.cell? ⟨gb181, 6, none⟩ = some (.int .u32 a0_6) := (blk_cell BK181.out 6).trans rfl; have hcz6_7 : w5.cell? ⟨gb181, 7, none⟩ = some (.int .u32 a0_7) := (blk_cell BK181.out 7).trans rfl; have hcz6_8 : w5.cell? ⟨gb181, 8, none⟩ = some (.int .u32 a0_8) := (blk_cell BK181.out 8).trans rfl; have hcz6_9 : w5.cell? ⟨gb181, 9, none⟩ = some (.int .u64 a0_9) := (blk_cell BK181.out 9).trans rfl; have hcz6_10 : w5.cell? ⟨gb181, 10, none⟩ = some (.int .u64 a0_10) := (blk_cell BK181.out 10).trans rfl; have hcz6_11 : w5.cell? ⟨gb181, 11, none⟩ = some (.int .u64 a0_11) := (blk_cell BK181.out 11).trans rfl; have hcz6_12 : w5.cell? ⟨gb181, 12, none⟩ = some (.int .u64 a0_12) := (blk_cell BK181.out 12).trans rfl; have hfz6_0 := blk_frozen BK181.out 0; have hfz6_1 := blk_frozen BK181.out 1; have hfz6_2 := blk_frozen BK181.out 2; have hfz6_3 := blk_frozen BK181.out 3; have hfz6_4 := blk_frozen BK181.out 4; have hfz6_5 := blk_frozen BK181.out 5; have hfz6_6 := blk_frozen BK181.out 6; have hfz6_7 := blk_frozen BK181.out 7; have hfz6_8 := blk_frozen BK181.out 8; have hfz6_9 := blk_frozen BK181.out 9; have hfz6_10 := blk_frozen BK181.out 10; have hfz6_11 := blk_frozen BK181.out 11; have hfz6_12 := blk_frozen BK181.out 12) | ((with_reducible refine gate_callee (f := 51) rfl ?_); refine goesL_ (some 7) rfl rfl Try.func51 (by kernel_rfl) rfl #[.agg #[.int .i64 a0_0, .int .i64 a0_1, .int .i64 a0_2, .int .i64 a0_3, .int .i64 a0_4, .int .i64 a0_5, .int .u32 a0_6, .int .u32 a0_7, .int .u32 a0_8, .int .u64 a0_9, .int .u64 a0_10, .int .u64 a0_11, .int .u64 a0_12]] rfl (by (try simp only [List.map_toArray, List.map_cons, List.map_nil]); first | done | rfl | (simp only [List.length_drop, List.length_take]; rfl)) ?_; (with_reducible refine (ntpmsg_Check.calls a0_0 a0_1 a0_2 a0_3 a0_4 a0_5 a0_6 a0_7 a0_8 a0_9 a0_10 a0_11 a0_12 t182 _ A2.out).mono ?_); rintro e w7 ⟨rfl, hb⟩; refine ⟨_, rfl, ?_⟩; have n0_ := Aside0.mk (blk_below (g := gb181) (o := .cells #[.int .i64 a0_0, .int .i64 a0_1, .int .i64 a0_2, .int .i64 a0_3, .int .i64 a0_4, .int .i64 a0_5, .int .u32 a0_6, .int .u32 a0_7, .int .u32 a0_8, .int .u64 a0_9, .int .u64 a0_10, .int .u64 a0_11, .int .u64 a0_12] 46 (0, 0)) (by (with_reducible repeat (first | refine blk_drewN ?_ _ | refine blk_drew ?_ | refine blk_alloc ?_ _)); exact BK181.out) hb); have n1_ := Aside0.mk (below_step (by repeat (first | (with_reducible first | exact HB.out | apply below_alloc | apply pw_below_drewN | apply below_drew1 | refine below_set ?_ GE181.out) | exact HB.out)) hb); clear BK181; clear HB; have BK181 := n0_; have HB := n1_; clear n0_ n1_; (try clear hb); (try clear hb2); (try clear hk); (try clear hi); have hcz8_0 : w7.cell? ⟨gb181, 0, none⟩ = some (.int .i64 a0_0) := (blk_cell BK181.out 0).trans rfl; have hcz8_1 : w7.cell? ⟨gb181, 1, none⟩ = some (.int .i64 a0_1) := (blk_cell BK181.out 1).trans rfl; have hcz8_2 : w7.cell? ⟨gb181, 2, none⟩ = some (.int .i64 a0_2) := (blk_cell BK181.out 2).trans rfl; have hcz8_3 : w7.cell? ⟨gb181, 3, none⟩ = some (.int .i64 a0_3) := (blk_cell BK181.out 3).trans rfl; have hcz8_4 : w7.cell? ⟨gb181, 4, none⟩ = some (.int .i64 a0_4) := (blk_cell BK181.out 4).trans rfl; have hcz8_5 : w7.cell? ⟨gb181, 5, none⟩ = some (.int .i64 a0_5) := (blk_cell BK181.out 5).trans rfl; have hcz8_6 : w7.cell? ⟨gb181, 6, none⟩ = some (.int .u32 a0_6) := (blk_cell BK181.out 6).trans rfl; have hcz8_7 : w7.cell? ⟨gb181, 7, none⟩ = some (.int .u32 a0_7) := (blk_cell BK181.out 7).trans rfl; have hcz8_8 : w7.cell? ⟨gb181, 8, none⟩ = some (.int .u32 a0_8) := (blk_cell BK181.out 8).trans rfl; have hcz8_9 : w7.cell? ⟨gb181, 9, none⟩ = some (.int .u64 a0_9) := (blk_cell BK181.out 9).trans rfl; have hcz8_10 : w7.cell? ⟨gb181, 10, none⟩ = some (.int .u64 a0_10) := (blk_cell BK181.out 10).trans rfl; have hcz8_11 : w7.cell? ⟨gb181, 11, none⟩ = some (.int .u64 a0_11) := (blk_cell BK181.out 11).trans rfl; have hcz8_12 : w7.cell? ⟨gb181, 12, none⟩ = some (.int .u64 a0_12) := (blk_cell BK181.out 12).trans rfl; have hfz8_0 := blk_frozen BK181.out 0; have hfz8_1 := blk_frozen BK181.out 1; have hfz8_2 := blk_frozen BK181.out 2; have hfz8_3 := blk_frozen BK181.out 3; have hfz8_4 := blk_frozen BK181.out 4; have hfz8_5 := blk_frozen BK181.out 5; have hfz8_6 := blk_frozen BK181.out 6; have hfz8_7 := blk_frozen BK181.out 7; have hfz8_8 := blk_frozen BK181.out 8; have hfz8_9 := blk_frozen BK181.out 9; have hfz8_10 := blk_frozen BK181.out 10; have hfz8_11 := blk_frozen BK181.out 11; have hfz8_12 := blk_frozen BK181.out 12) | ((with_reducible refine gate_dst (N := 62) rfl ?_); refine Kd.R_lit k133 _ 133 ?hg (N := 62) ?hd (xs := ([(⟨IntKind.u64.wrap (Go.bits .or .i64 (Go.bits .or .i64 (wrap64 (a0_0 * 64)) (wrap64 (a0_1 * 8))) a0_2), 1⟩ : S133), (⟨IntKind.u64.wrap (a0_3), 1⟩ : S133), (⟨(a0_4) % 256, 1⟩ : S133), (⟨(a0_5) % 256, 1⟩ : S133), (⟨IntKind.u64.wrap (a0_6), 4⟩ : S133), (⟨IntKind.u64.wrap (a0_7), 4⟩ : S133), (⟨IntKind.u64.wrap (a0_8), 4⟩ : S133), (⟨a0_9, 8⟩ : S133), (⟨a0_10, 8⟩ : S133), (⟨a0_11, 8⟩ : S133), (⟨a0_12, 8⟩ : S133)] : List (S133))) (inner := [.int .u64 (IntKind.u64.wrap (Go.bits .or .i64 (Go.bits .or .i64 (wrap64 (a0_0 * 64)) (wrap64 (a0_1 * 8))) a0_2)), .int .i64 1, .int .u64 (IntKind.u64.wrap (a0_3)), .int .i64 1, .int .u64 ((a0_4) % 256), .int .i64 1, .int .u64 ((a0_5) % 256), .int .i64 1, .int .u64 (IntKind.u64.wrap (a0_6)), .int .i64 4, .int .u64 (IntKind.u64.wrap (a0_7)), .int .i64 4, .int .u64 (IntKind.u64.wrap (a0_8)), .int .i64 4, .int .u64 a0_9, .int .i64 8, .int .u64 a0_10, .int .i64 8, .int .u64 a0_11, .int .i64 8, .int .u64 a0_12, .int .i64 8]) (ok := fun _ => True) (okp := fun _ => True) ?hr ?hp (fun _ hk => hk) trivial (Below.refl _ _) (Nat.le_refl _) (by simp) ?_; (case hd => rfl); (case hg => rfl); (case hr => first | (go_simp; done) | (go_simp; rfl)); (case hp => exact (Reps.c2 (show Kd.M k133 _ _ _ (⟨IntKind.u64.wrap (Go.bits .or .i64 (Go.bits .or .i64 (wrap64 (a0_0 * 64)) (wrap64 (a0_1 * 8))) a0_2), 1⟩ : S133) [.int .u64 (IntKind.u64.wrap (Go.bits .or .i64 (Go.bits .or .i64 (wrap64 (a0_0 * 64)) (wrap64 (a0_1 * 8))) a0_2)), .int .i64 1] from (k133_mkM _ _ _ (⟨IntKind.u64.wrap (Go.bits .or .i64 (Go.bits .or .i64 (wrap64 (a0_0 * 64)) (wrap64 (a0_1 * 8))) a0_2), 1⟩ : S133) )) (Reps.c2 (show Kd.M k133 _ _ _ (⟨IntKind.u64.wrap (a0_3), 1⟩ : S133) [.int .u64 (IntKind.u64.wrap (a0_3)), .int .i64 1] from (k133_mkM _ _ _ (⟨IntKind.u64.wrap (a0_3), 1⟩ : S133) )) (Reps.c2 (show Kd.M k133 _ _ _ (⟨(a0_4) % 256, 1⟩ : S133) [.int .u64 ((a0_4) % 256), .int .i64 1] from (k133_mkM _ _ _ (⟨(a0_4) % 256, 1⟩ : S133) )) (Reps.c2 (show Kd.M k133 _ _ _ (⟨(a0_5) % 256, 1⟩ : S133) [.int .u64 ((a0_5) % 256), .int .i64 1] from (k133_mkM _ _ _ (⟨(a0_5) % 256, 1⟩ : S133) )) (Reps.c2 (show Kd.M k133 _ _ _ (⟨IntKind.u64.wrap (a0_6), 4⟩ : S133) [.int .u64 (IntKind.u64.wrap (a0_6)), .int .i64 4] from (k133_mkM _ _ _ (⟨IntKind.u64.wrap (a0_6), 4⟩ : S133) )) (Reps.c2 (show Kd.M k133 _ _ _ (⟨IntKind.u64.wrap (a0_7), 4⟩ : S133) [.int .u64 (IntKind.u64.wrap (a0_7)), .int .i64 4] from (k133_mkM _ _ _ (⟨IntKind.u64.wrap (a0_7), 4⟩ : S133) )) (Reps.c2 (show Kd.M k133 _ _ _ (⟨IntKind.u64.wrap (a0_8), 4⟩ : S133) [.int .u64 (IntKind.u64.wrap (a0_8)), .int .i64 4] from (k133_mkM _ _ _ (⟨IntKind.u64.wrap (a0_8), 4⟩ : S133) )) (Reps.c2 (show Kd.M k133 _ _ _ (⟨a0_9, 8⟩ : S133) [.int .u64 a0_9, .int .i64 8] from (k133_mkM _ _ _ (⟨a0_9, 8⟩ : S133) )) (Reps.c2 (show Kd.M k133 _ _ _ (⟨a0_10, 8⟩ : S133) [.int .u64 a0_10, .int .i64 8] from (k133_mkM _ _ _ (⟨a0_10, 8⟩ : S133) )) (Reps.c2 (show Kd.M k133 _ _ _ (⟨a0_11, 8⟩ : S133) [.int .u64 a0_11, .int .i64 8] from (k133_mkM _ _ _ (⟨a0_11, 8⟩ : S133) )) (Reps.c2 (show Kd.M k133 _ _ _ (⟨a0_12, 8⟩ : S133) [.int .u64 a0_12, .int .i64 8] from (k133_mkM _ _ _ (⟨a0_12, 8⟩ : S133) )) (Reps.none _ _))))))))))))); intro v184 w9 ho10 hb hg_ hnew_; clear hg_ hnew_; (first | rw [← Ny183.out] at ho10 | (simp only [Int.reduceToNat] at ho10; rw [← Ny183.out] at ho10)); have n0_ := Aside0.mk (Kd.R_lower ho10 (below_size (by repeat (first | (with_reducible first | exact HB.out | apply below_alloc | apply pw_below_drewN | apply below_drew1 | refine below_set ?_ GE181.out) | exact HB.out)))); have n1_ := Aside0.mk (blk_below (g := gb181) (o := .cells #[.int .i64 a0_0, .int .i64 a0_1, .int .i64 a0_2, .int .i64 a0_3, .int .i64 a0_4, .int .i64 a0_5, .int .u32 a0_6, .int .u32 a0_7, .int .u32 a0_8, .int .u64 a0_9, .int .u64 a0_10, .int .u64 a0_11, .int .u64 a0_12] 46 (0, 0)) (by (with_reducible repeat (first | refine blk_drewN ?_ _ | refine blk_drew ?_ | refine blk_alloc ?_ _)); exact BK181.out) hb); have n2_ := Aside0.mk (below_step (by repeat (first | (with_reducible first | exact HB.out | apply below_alloc | apply pw_below_drewN | apply below_drew1 | refine below_set ?_ GE181.out) | exact HB.out)) hb); clear BK181; clear HB; have HO185 := n0_; have BK181 := n1_; have HB := n2_; clear n0_ n1_ n2_; clear hb ho10; obtain ⟨Ao11, co11, eo11⟩ := Kd.R_slice HO185.out; subst eo11) | ((with_reducible refine gate_callee (f := 61) rfl ?_); refine goesL_ (some 63) rfl rfl Try.func61 (by kernel_rfl) rfl #[.slice Ao11 y183.length co11] rfl (by (try simp only [List.map_toArray, List.map_cons, List.map_nil]); first | done | rfl | (simp only [List.length_drop, List.length_take]; rfl)) ?_; (with_reducible refine (ntpmsg_put.calls k _ _ y183 t186 _ ?side1 ?side2 A4.out).mono ?_); (case side1 => repeat (first | exact (Kd.R_reads' HO185.out).2.2 | (with_reducible refine Kd.C_alloc ?_ _) | (with_reducible refine Kd.C_drewN ?_ _) | (with_reducible refine Kd.C_drew ?_))); (case side2 => exact (Kd.R_reads' HO185.out).2.1); rintro e w12 ⟨v187, rfl, ho0, hb⟩; refine ⟨_, rfl, ?_⟩; have n0_ := Aside0.mk (Kd.R_below (by (with_reducible repeat (first | apply Kd.R_alloc | apply Kd.R_drewN | apply Kd.R_drew)); exact HO185.out) hb); have n1_ := Aside0.mk (Kd.R_lower ho0 (below_size (by repeat (first | (with_reducible first | exact HB.out | apply below_alloc | apply pw_below_drewN | apply below_drew1 | refine below_set ?_ GE181.out) | exact HB.out)))); have n2_ := Aside0.mk (blk_below (g := gb181) (o := .cells #[.int .i64 a0_0, .int .i64 a0_1, .int .i64 a0_2, .int .i64 a0_3, .int .i64 a0_4, .int .i64 a0_5, .int .u32 a0_6, .int .u32 a0_7, .int .u32 a0_8, .int .u64 a0_9, .int .u64 a0_10, .int .u64 a0_11, .int .u64 a0_12] 46 (0, 0)) (by (with_reducible repeat (first | refine blk_drewN ?_ _ | refine blk_drew ?_ | refine blk_alloc ?_ _)); exact BK181.out) hb); have n3_ := Aside0.mk (below_step (by repeat (first | (with_reducible first | exact HB.out | apply below_alloc | apply pw_below_drewN | apply below_drew1 | refine below_set ?_ GE181.out) | exact HB.out)) hb); clear HO185; clear BK181; clear HB; have HO185 := n0_; have HO188 := n1_; have BK181 := n2_; have HB := n3_; clear n0_ n1_ n2_ n3_; (try clear hb); (try clear hb2); (try clear hk); (try clear hi); (try clear ho0)))
    go_ret2
    exact ⟨_, by first | rfl | (simp [errW_none, errW_some] <;> rfl) | (simp [*, errW_none, errW_some] <;> rfl), by (with_reducible repeat (first | apply Kd.R_alloc | apply Kd.R_drewN | apply Kd.R_drew)); exact HO188.out, by repeat (first | (with_reducible first | exact HB.out | apply below_alloc | apply pw_below_drewN | apply below_drew1 | refine below_set ?_ GE181.out) | exact HB.out)⟩
  · rw [if_neg c3] at H
    have c3b0 : (t182 == 0) = false := beq_eq_false_iff_ne.mpr c3
    have c3b1 : (t182 != 0) = true := bne_iff_ne.mpr c3
    simp only [Option.some.injEq, Prod.mk.injEq] at H
    obtain ⟨rfl, rfl⟩ := H
    go_enter Try.func35, Try.ntmps35
    go_wp2_with (first | ((with_reducible refine gate_dst (N := 1) rfl ?_); refine box_event ?hg (N := 1) ?hd (cs := #[.int .i64 a0_0, .int .i64 a0_1, .int .i64 a0_2, .int .i64 a0_3, .int .i64 a0_4, .int .i64 a0_5, .int .u32 a0_6, .int .u32 a0_7, .int .u32 a0_8, .int .u64 a0_9, .int .u64 a0_10, .int .u64 a0_11, .int .u64 a0_12]) (t := 46) ?hr ?_; (case hd => rfl); (case hg => rfl); (case hr => first | (go_simp; done) | (go_simp; rfl)); intro gb181 hg w13 hbox hb; have n0_ := Aside0.mk (below_step (by repeat (first | (with_reducible first | exact HB.out | apply below_alloc | apply pw_below_drewN | apply below_drew1) | exact HB.out)) hb); have n1_ := Aside0.mk (hbox); have n2_ := Aside0.mk ((by rw [hg]; exact (below_size (by repeat (first | (with_reducible first | exact HB.out | apply below_alloc | apply pw_below_drewN | apply below_drew1) | exact HB.out))) : w.heap.size ≤ gb181)); have n3_ := Aside0.mk ((by rw [hg]; exact (below_size (by repeat (first | (with_reducible first | exact HB.out | apply below_alloc | apply pw_below_drewN | apply below_drew1) | exact HB.out))) : w.heap.size ≤ gb181)); clear HB; have HB := n0_; have BK181 := n1_; have GW181 := n2_; have GE181 := n3_; clear n0_ n1_ n2_ n3_; clear hb hbox hg; have hcz14_0 : w13.cell? ⟨gb181, 0, none⟩ = some (.int .i64 a0_0) := (blk_cell BK181.out 0).trans rfl; have hcz14_1 : w13.cell? ⟨gb181, 1, none⟩ = some (.int .i64 a0_1) := (blk_cell BK181.out 1).trans rfl; have hcz14_2 : w13.cell? ⟨gb181, 2, none⟩ = some (.int .i64 a0_2) := (blk_cell BK181.out 2).trans rfl; have hcz14_3 : w13.cell? ⟨gb181, 3, none⟩ = some (.int .i64 a0_3) := (blk_cell BK181.out 3).trans rfl; have hcz14_4 : w13.cell? ⟨gb181, 4, none⟩ = some (.int .i64 a0_4) := (blk_cell BK181.out 4).trans rfl; have hcz14_5 : w13.cell? ⟨gb181, 5, none⟩ = some (.int .i64 a0_5) := (blk_cell BK181.out 5).trans rfl; have hcz14_6 : w13.cell? ⟨gb181, 6, none⟩ = some (.int .u32 a0_6) := (blk_cell BK181.out 6).trans rfl; have hcz14_7 : w13.cell? ⟨gb181, 7, none⟩ = some (.int .u32 a0_7) := (blk_cell BK181.out 7).trans rfl; have hcz14_8 : w13.cell? ⟨gb181, 8, none⟩ = some (.int .u32 a0_8) := (blk_cell BK181.out 8).trans rfl; have hcz14_9 : w13.cell? ⟨gb181, 9, none⟩ = some (.int .u64 a0_9) := (blk_cell BK181.out 9).trans rfl; have hcz14_10 : w13.cell? ⟨gb181, 10, none⟩ = some (.int .u64 a0_10) := (blk_cell BK181.out 10).trans rfl; have hcz14_11 : w13.cell? ⟨gb181, 11, none⟩ = some (.int .u64 a0_11) := (blk_cell BK181.out 11).trans rfl; have hcz14_12 : w13.cell? ⟨gb181, 12, none⟩ = some (.int .u64 a0_12) := (blk_cell BK181.out 12).trans rfl; have hfz14_0 := blk_frozen BK181.out 0; have hfz14_1 := blk_frozen BK181.out 1; have hfz14_2 := blk_frozen BK181.out 2; have hfz14_3 := blk_frozen BK181.out 3; have hfz14_4 := blk_frozen BK181.out 4; have hfz14_5 := blk_frozen BK181.out 5; have hfz14_6 := blk_frozen BK181.out 6; have hfz14_7 := blk_frozen BK181.out 7; have hfz14_8 := blk_frozen BK181.out 8; have hfz14_9 := blk_frozen BK181.out 9; have hfz14_10 := blk_frozen BK181.out 10; have hfz14_11 := blk_frozen BK181.out 11; have hfz14_12 := blk_frozen BK181.out 12) | ((with_reducible refine gate_callee (f := 51) rfl ?_); refine goesL_ (some 7) rfl rfl Try.func51 (by kernel_rfl) rfl #[.agg #[.int .i64 a0_0, .int .i64 a0_1, .int .i64 a0_2, .int .i64 a0_3, .int .i64 a0_4, .int .i64 a0_5, .int .u32 a0_6, .int .u32 a0_7, .int .u32 a0_8, .int .u64 a0_9, .int .u64 a0_10, .int .u64 a0_11, .int .u64 a0_12]] rfl (by (try simp only [List.map_toArray, List.map_cons, List.map_nil]); first | done | rfl | (simp only [List.length_drop, List.length_take]; rfl)) ?_; (with_reducible refine (ntpmsg_Check.calls a0_0 a0_1 a0_2 a0_3 a0_4 a0_5 a0_6 a0_7 a0_8 a0_9 a0_10 a0_11 a0_12 t182 _ A2.out).mono ?_); rintro e w15 ⟨rfl, hb⟩; refine ⟨_, rfl, ?_⟩; have n0_ := Aside0.mk (blk_below (g := gb181) (o := .cells #[.int .i64 a0_0, .int .i64 a0_1, .int .i64 a0_2, .int .i64 a0_3, .int .i64 a0_4, .int .i64 a0_5, .int .u32 a0_6, .int .u32 a0_7, .int .u32 a0_8, .int .u64 a0_9, .int .u64 a0_10, .int .u64 a0_11, .int .u64 a0_12] 46 (0, 0)) (by (with_reducible repeat (first | refine blk_drewN ?_ _ | refine blk_drew ?_ | refine blk_alloc ?_ _)); exact BK181.out) hb); have n1_ := Aside0.mk (below_step (by repeat (first | (with_reducible first | exact HB.out | apply below_alloc | apply pw_below_drewN | apply below_drew1 | refine below_set ?_ GE181.out) | exact HB.out)) hb); clear BK181; clear HB; have BK181 := n0_; have HB := n1_; clear n0_ n1_; (try clear hb); (try clear hb2); (try clear hk); (try clear hi)))
    go_ret2
    exact ⟨_, by first | rfl | (simp [errW_none, errW_some] <;> rfl) | (simp [*, errW_none, errW_some] <;> rfl), by first | exact Kd.R_nil _ _ _ _ _ | exact Kd.N_nil _ _ _ _ _ | exact Kd.V_nil _ _ _ _ _ | exact Kd.Q_nil _ _ _ _ _ | exact Kd.S_nil _ _ _ _ _, by repeat (first | (with_reducible first | exact HB.out | apply below_alloc | apply pw_below_drewN | apply below_drew1 | refine below_set ?_ GE181.out) | exact HB.out)⟩

end Go.Proofs.Ytjbjkjlfikfeeaa.P
/- The bytes of a header, both ways. -/
namespace Go.Proofs.Ytjbjkjlfikfeeaa.P
open Go.RowKit Go.Proofs.YtjbjkjlfikfeeaaW.PrintWords Go.Proofs.YtjbjkjlfikfeeaaW.PrintLast Go.Proofs.YtjbjkjlfikfeeaaW.PrintMore Go.Proofs.Ytjbjkjlfikfeeaa.Rd

def valid19 (L V M S P C : Int) : Prop := 0 ≤ L ∧ L ≤ 3 ∧ 1 ≤ V ∧ V ≤ 4 ∧ 0 ≤ M ∧ M ≤ 7 ∧ 0 ≤ S ∧ S ≤ 255 ∧ -128 ≤ P ∧ P ≤ 127 ∧ -128 ≤ C ∧ C ≤ 127
instance (L V M S P C : Int) : Decidable (valid19 L V M S P C) := by unfold valid19; infer_instance
theorem in_eq (a lo hi : Int) : ntpmsg_in.f a lo hi = some (decide (lo ≤ a ∧ a ≤ hi)) := by
  unfold ntpmsg_in.f
  by_cases h : a ≥ lo
  · rw [if_pos h]; congr 1; simp; omega
  · rw [if_neg h]; congr 1; simp; omega
set_option maxHeartbeats 4000000 in
theorem check_spec (L V M S P C d1 d2 d3 d4 d5 d6 d7 : Int) : ntpmsg_Check.f L V M S P C d1 d2 d3 d4 d5 d6 d7 = some (if valid19 L V M S P C then 0 else 3) := by
  by_cases hv : valid19 L V M S P C
  all_goals
    first | rw [if_pos hv] | rw [if_neg hv]
    unfold valid19 at hv
    unfold ntpmsg_Check.f
    simp only [in_eq, Option.bind_some, decide_eq_true_eq]
    repeat' split
    all_goals first | rfl | omega
/-- The bytes of fields. -/
def fieldsOf (l : List S133) : List Int := (l.map fun f => be f.f0 f.f1.toNat).flatten
def fieldOk (f : S133) : Prop := 0 ≤ f.f0 ∧ 1 ≤ f.f1 ∧ f.f1 ≤ 8 ∧ f.f0 < 2 ^ (8 * f.f1.toNat)
theorem put_l0 (fs : List S133) (hok : ∀ f ∈ fs, fieldOk f) (hfs : fs.length ≤ 100) : ∀ (d i k : Nat) (x : List Int), fs.length = i + d → d < k → x.length + 8 * d ≤ 140737488355000 → ntpmsg_put.l0 k x fs (fs.length : Int) i = some (x ++ fieldsOf (fs.drop i)) := by
  intro d
  induction d with
  | zero =>
    intro i k x hi hk hx
    obtain ⟨k, rfl⟩ : ∃ k', k = k' + 1 := ⟨k - 1, by omega⟩
    rw [ntpmsg_put.l0, if_neg (by omega), List.drop_of_length_le (by omega)]
    simp [fieldsOf]
  | succ d ih =>
    intro i k x hi hk hx
    obtain ⟨k, rfl⟩ : ∃ k', k = k' + 1 := ⟨k - 1, by omega⟩
    have hlt : i < fs.length := by omega
    have e1 : rd_T133 fs (i : Int) = fs[i] := by
      unfold rd_T133
      simp [List.getD_eq_getElem?_getD, hlt]
    have e2 : wrap64 ((i : Int) + 1) = ((i + 1 : Nat) : Int) := by unfold wrap64; omega
    obtain ⟨h0, h1, h8, hn⟩ := hok fs[i] (List.getElem_mem hlt)
    obtain ⟨s, hs⟩ := Int.eq_ofNat_of_zero_le (show 0 ≤ fs[i].f1 by omega)
    rw [ntpmsg_put.l0, if_pos (by omega), if_pos (by omega), if_pos (by omega), e1, e2]
    rw [hs] at h1 h8 hn ⊢
    rw [Int.toNat_natCast] at hn
    rw [app_fits x _ s (by omega) (by omega) h0 hn (by omega)]
    show ntpmsg_put.l0 k (x ++ be fs[i].f0 s) fs fs.length _ = _
    rw [ih (i + 1) k _ (by omega) (by omega) (by rw [List.length_append, be_length]; omega), List.append_assoc]
    congr 2
    rw [List.drop_eq_getElem_cons hlt]
    unfold fieldsOf
    rw [List.map_cons, List.flatten_cons, hs, Int.toNat_natCast]
theorem first_or : ∀ (L V M : Nat), L < 4 → V < 8 → M < 8 → Go.bits .or .i64 (Go.bits .or .i64 (wrap64 ((L : Int) * 64)) (wrap64 ((V : Int) * 8))) M = L * 64 + V * 8 + M := by
  have h : ∀ (L : Fin 4) (V : Fin 8) (M : Fin 8), Go.bits .or .i64 (Go.bits .or .i64 (wrap64 ((L.val : Int) * 64)) (wrap64 ((V.val : Int) * 8))) M.val = L.val * 64 + V.val * 8 + M.val := by decide +kernel
  intro L V M hL hV hM
  exact h ⟨L, hL⟩ ⟨V, hV⟩ ⟨M, hM⟩
/-- The bytes of a header. -/
def hdr (L V M S P C : Int) (d1 d2 d3 d4 d5 d6 d7 : Int) : List Int :=
  [L * 64 + V * 8 + M, S, P % 256, C % 256] ++ be d1 4 ++ be d2 4 ++ be d3 4 ++ be d4 8 ++ be d5 8 ++ be d6 8 ++ be d7 8
theorem be_one (n : Int) : be n 1 = [n % 256] := by simp [be, digit]
theorem enc_ok (k : Nat) (hk : 20 < k) (L V M S P C d1 d2 d3 d4 d5 d6 d7 : Int) (hv : valid19 L V M S P C) (h1 : 0 ≤ d1 ∧ d1 < 2 ^ 32) (h2 : 0 ≤ d2 ∧ d2 < 2 ^ 32) (h3 : 0 ≤ d3 ∧ d3 < 2 ^ 32)
    (h4 : 0 ≤ d4 ∧ d4 < 2 ^ 64) (h5 : 0 ≤ d5 ∧ d5 < 2 ^ 64) (h6 : 0 ≤ d6 ∧ d6 < 2 ^ 64) (h7 : 0 ≤ d7 ∧ d7 < 2 ^ 64) :
    ntpmsg_Encode.f k L V M S P C d1 d2 d3 d4 d5 d6 d7 = some (hdr L V M S P C d1 d2 d3 d4 d5 d6 d7, 0) := by
  unfold ntpmsg_Encode.f
  rw [check_spec, if_pos hv, Option.bind_some, if_pos rfl]
  unfold valid19 at hv
  obtain ⟨l, rfl⟩ := Int.eq_ofNat_of_zero_le (show 0 ≤ L by omega)
  obtain ⟨v, rfl⟩ := Int.eq_ofNat_of_zero_le (show 0 ≤ V by omega)
  obtain ⟨m, rfl⟩ := Int.eq_ofNat_of_zero_le (show 0 ≤ M by omega)
  rw [first_or l v m (by omega) (by omega) (by omega)]
  have w1 : ∀ d : Int, 0 ≤ d ∧ d < 2 ^ 32 → IntKind.u64.wrap d = d := fun d h => by rw [IntKind.wrap_u64]; omega
  have wf : IntKind.u64.wrap ((l : Int) * 64 + v * 8 + m) = l * 64 + v * 8 + m := by rw [IntKind.wrap_u64]; omega
  have ws : IntKind.u64.wrap S = S := by rw [IntKind.wrap_u64]; omega
  rw [wf, ws, w1 d1 h1, w1 d2 h2, w1 d3 h3]
  unfold ntpmsg_put.f
  rw [show (0 : Int) = ((0 : Nat) : Int) from rfl, put_l0 _ ?_ (by simp) 11 0 k [] (by simp) (by omega) (by simp)]
  · simp only [Option.bind_some, List.drop_zero, List.nil_append]
    congr 2
    unfold fieldsOf hdr
    simp only [List.map_cons, List.map_nil, List.flatten_cons, List.flatten_nil, List.append_nil, show (1 : Int).toNat = 1 from rfl, show (4 : Int).toNat = 4 from rfl, show (8 : Int).toNat = 8 from rfl, be_one]
    have e1 : ((l : Int) * 64 + v * 8 + m) % 256 = l * 64 + v * 8 + m := by omega
    have e2 : S % 256 = S := by omega
    have e3 : P % 256 % 256 = P % 256 := by omega
    have e4 : C % 256 % 256 = C % 256 := by omega
    rw [e1, e2, e3, e4]
    simp only [List.cons_append, List.nil_append, List.append_assoc]
  · intro f hf
    simp only [List.mem_cons, List.not_mem_nil, or_false] at hf
    rcases hf with rfl | rfl | rfl | rfl | rfl | rfl | rfl | rfl | rfl | rfl | rfl
    all_goals
      refine ⟨?_, ?_, ?_, ?_⟩
      all_goals dsimp only
      all_goals first | omega | (show _ < (2 : Int) ^ 8; omega) | (show _ < (2 : Int) ^ 32; omega) | (show _ < (2 : Int) ^ 64; omega)
theorem acc_one (x : Int) (h0 : 0 ≤ x) (h1 : x ≤ 255) : acc [x] 1 = x := by
  have hb : bytesOk [x] := by intro y hy; rw [List.mem_singleton] at hy; subst hy; exact ⟨h0, h1⟩
  rw [acc_val hb 1 (by omega)]
  simp [val, rd]
theorem up_one (P : Int) (h0 : -128 ≤ P) (h1 : P ≤ 127) : upDown (P % 256) 1 = P := by
  unfold upDown
  rw [IntKind.wrap_u64, show (2 : Int) ^ (64 - 8 * 1) = 72057594037927936 from rfl]
  unfold wrap64
  omega
theorem and_seven (x : Int) (h0 : 0 ≤ x) (h1 : x ≤ 255) : bits .and .i64 x 7 = x % 8 := by
  have h : ∀ n : Fin 256, Go.bits .and .i64 (n.val : Int) 7 = (n.val : Int) % 8 := by decide +kernel
  have := h ⟨x.toNat, by omega⟩
  dsimp only at this
  rw [show ((x.toNat : Nat) : Int) = x by omega] at this
  exact this
theorem hdr_length (L V M S P C d1 d2 d3 d4 d5 d6 d7 : Int) : (hdr L V M S P C d1 d2 d3 d4 d5 d6 d7).length = 48 := by
  simp [hdr, be_length]
theorem hdr_bytes {L V M S P C : Int} (hv : valid19 L V M S P C) (d1 d2 d3 d4 d5 d6 d7 : Int) : bytesOk (hdr L V M S P C d1 d2 d3 d4 d5 d6 d7) := by
  unfold valid19 at hv
  intro x hx
  unfold hdr at hx
  simp only [List.mem_append, List.mem_cons, List.not_mem_nil, or_false] at hx
  rcases hx with ((((((( rfl | rfl | rfl | rfl) | h) | h) | h) | h) | h) | h) | h
  · omega
  · omega
  · omega
  · omega
  all_goals exact be_bytes _ _ x h
theorem dec_hdr {L V M S P C : Int} (hv : valid19 L V M S P C) {d1 d2 d3 d4 d5 d6 d7 : Int} (h1 : 0 ≤ d1 ∧ d1 < 2 ^ 32) (h2 : 0 ≤ d2 ∧ d2 < 2 ^ 32) (h3 : 0 ≤ d3 ∧ d3 < 2 ^ 32)
    (h4 : 0 ≤ d4 ∧ d4 < 2 ^ 64) (h5 : 0 ≤ d5 ∧ d5 < 2 ^ 64) (h6 : 0 ≤ d6 ∧ d6 < 2 ^ 64) (h7 : 0 ≤ d7 ∧ d7 < 2 ^ 64) (r : List Int) (hr : bytesOk r) (hl : r.length ≤ 140737488354000) :
    ntpmsg_Decode.f (hdr L V M S P C d1 d2 d3 d4 d5 d6 d7 ++ r) = some (L, V, M, S, P, C, d1, d2, d3, d4, d5, d6, d7, r, 0) := by
  have hlen := hdr_length L V M S P C d1 d2 d3 d4 d5 d6 d7
  have hbo : bytesOk (hdr L V M S P C d1 d2 d3 d4 d5 d6 d7 ++ r) := by
    intro x hx
    rcases List.mem_append.1 hx with h | h
    · exact hdr_bytes hv _ _ _ _ _ _ _ x h
    · exact hr x h
  have t0 : (hdr L V M S P C d1 d2 d3 d4 d5 d6 d7 ++ r).take 1 = [L * 64 + V * 8 + M] := rfl
  have t1 : (hdr L V M S P C d1 d2 d3 d4 d5 d6 d7 ++ r).tail.take 1 = [S] := rfl
  have t2 : ((hdr L V M S P C d1 d2 d3 d4 d5 d6 d7 ++ r).drop 2).take 1 = [P % 256] := rfl
  have t3 : ((hdr L V M S P C d1 d2 d3 d4 d5 d6 d7 ++ r).drop 3).take 1 = [C % 256] := rfl
  have q : ∀ (pre mid post : List Int) (k s : Nat), hdr L V M S P C d1 d2 d3 d4 d5 d6 d7 ++ r = pre ++ (mid ++ post) → pre.length = k → mid.length = s → ((hdr L V M S P C d1 d2 d3 d4 d5 d6 d7 ++ r).drop k).take s = mid := by
    intro pre mid post k s e hk hs
    rw [e]; exact mid_of pre mid post k s hk hs
  have t4 := q [L * 64 + V * 8 + M, S, P % 256, C % 256] (be d1 4) (be d2 4 ++ be d3 4 ++ be d4 8 ++ be d5 8 ++ be d6 8 ++ be d7 8 ++ r) 4 4 (by simp [hdr]) rfl (be_length _ _)
  have t5 := q ([L * 64 + V * 8 + M, S, P % 256, C % 256] ++ be d1 4) (be d2 4) (be d3 4 ++ be d4 8 ++ be d5 8 ++ be d6 8 ++ be d7 8 ++ r) 8 4 (by simp [hdr]) (by simp [be_length]) (be_length _ _)
  have t6 := q ([L * 64 + V * 8 + M, S, P % 256, C % 256] ++ be d1 4 ++ be d2 4) (be d3 4) (be d4 8 ++ be d5 8 ++ be d6 8 ++ be d7 8 ++ r) 12 4 (by simp [hdr]) (by simp [be_length]) (be_length _ _)
  have t7 := q ([L * 64 + V * 8 + M, S, P % 256, C % 256] ++ be d1 4 ++ be d2 4 ++ be d3 4) (be d4 8) (be d5 8 ++ be d6 8 ++ be d7 8 ++ r) 16 8 (by simp [hdr]) (by simp [be_length]) (be_length _ _)
  have t8 := q ([L * 64 + V * 8 + M, S, P % 256, C % 256] ++ be d1 4 ++ be d2 4 ++ be d3 4 ++ be d4 8) (be d5 8) (be d6 8 ++ be d7 8 ++ r) 24 8 (by simp [hdr]) (by simp [be_length]) (be_length _ _)
  have t9 := q ([L * 64 + V * 8 + M, S, P % 256, C % 256] ++ be d1 4 ++ be d2 4 ++ be d3 4 ++ be d4 8 ++ be d5 8) (be d6 8) (be d7 8 ++ r) 32 8 (by simp [hdr]) (by simp [be_length]) (be_length _ _)
  have t10 := q ([L * 64 + V * 8 + M, S, P % 256, C % 256] ++ be d1 4 ++ be d2 4 ++ be d3 4 ++ be d4 8 ++ be d5 8 ++ be d6 8) (be d7 8) r 40 8 (by simp [hdr]) (by simp [be_length]) (be_length _ _)
  have t11 : (hdr L V M S P C d1 d2 d3 d4 d5 d6 d7 ++ r).drop 48 = r := by rw [← hlen, List.drop_left]
  have hlt : (hdr L V M S P C d1 d2 d3 d4 d5 d6 d7 ++ r).length = 48 + r.length := by rw [List.length_append, hlen]
  unfold ntpmsg_Decode.f
  rw [if_neg (by omega), if_pos ⟨by omega, hbo⟩, t0, t1, t2, t3, t4, t5, t6, t7, t8, t9, t10, t11]
  unfold valid19 at hv
  rw [acc_one _ (by omega) (by omega), acc_one _ (by omega) (by omega), acc_one _ (by omega) (by omega), acc_one _ (by omega) (by omega), up_one P (by omega) (by omega), up_one C (by omega) (by omega),
    acc_be d1 4 h1.1 (by simpa using h1.2) (by omega), acc_be d2 4 h2.1 (by simpa using h2.2) (by omega), acc_be d3 4 h3.1 (by simpa using h3.2) (by omega), acc_be d4 8 h4.1 (by simpa using h4.2) (by omega), acc_be d5 8 h5.1 (by simpa using h5.2) (by omega), acc_be d6 8 h6.1 (by simpa using h6.2) (by omega), acc_be d7 8 h7.1 (by simpa using h7.2) (by omega)]
  have e0 : wrap64 (L * 64 + V * 8 + M) = L * 64 + V * 8 + M := by unfold wrap64; omega
  have e1 : wrap64 S = S := by unfold wrap64; omega
  rw [e0, e1, and_seven _ (by omega) (by omega), and_seven _ (by omega) (by omega)]
  have e2 : (L * 64 + V * 8 + M) / 8 % 8 = V := by omega
  have e3 : (L * 64 + V * 8 + M) / 64 = L := by omega
  have e4 : (L * 64 + V * 8 + M) % 8 = M := by omega
  have e5 : d1 % 4294967296 = d1 := by omega
  have e6 : d2 % 4294967296 = d2 := by omega
  have e7 : d3 % 4294967296 = d3 := by omega
  rw [e2, e3, e4, e5, e6, e7, if_neg (by omega)]
end Go.Proofs.Ytjbjkjlfikfeeaa.P
