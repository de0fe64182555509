-- Written by xp.py, a program of this session, over the print of the loaded program; Lean checks it.
import Derived.Test.YtpmkggcmnelhhaaPx0
import Derived.Test.YtpmkggcmnelhhaaPx17
import Derived.Test.YtpmkggcmnelhhaaPx18
namespace Go.Proofs.Ytpmkggcmnelhhaa.P
open Go.RowKit Go.Proofs.YtpmkggcmnelhhaaW.PrintWords Go.Proofs.YtpmkggcmnelhhaaW.PrintLast Go.Proofs.YtpmkggcmnelhhaaW.PrintMore
attribute [local go_sem] max2_int min2_int max_two min_two max_three min_three max_four min_four Go.Proofs.Ytpmkggcmnelhhaa.Op.isSome_setCell   -- for this text's walks alone
set_option linter.unusedVariables false
set_option linter.unusedSimpArgs false

/-! ### timesyncref19_Decode: function 15 -/
def timesyncref19_Decode.j0 : Nat → List Int → Int → Int → Bool → Option (Int × Int × Int × Int × Int × Int × Int × Int × Int × Int × Int × Int × Int × List Int × Int)
  | 0, _, _, _, _ => none
  | k + 1, x0, x5, x6, x24 => if x24 = true then (some (0, 0, 0, 0, 0, 0, 0, 0, 0, 0, 0, 0, 0, ([] : List Int), 8)) else (if 1 < (x0.length : Int) then (if 2 < (x0.length : Int) then ((timesyncref19_signed.f (rd x0 2)).bind fun t250 => (if 3 < (x0.length : Int) then ((timesyncref19_signed.f (rd x0 3)).bind fun t252 => ((timesyncref19_get.f k x0 4 4).bind fun t254 => ((timesyncref19_get.f k x0 8 4).bind fun t255 => ((timesyncref19_get.f k x0 12 4).bind fun t256 => ((timesyncref19_get.f k x0 16 8).bind fun t257 => ((timesyncref19_get.f k x0 24 8).bind fun t258 => ((timesyncref19_get.f k x0 32 8).bind fun t259 => ((timesyncref19_get.f k x0 40 8).bind fun t260 => ((some (([] : List Int) : List Int)).bind fun y261 => (if 48 ≤ (x0.length : Int) then (if y261.length + (x0.drop 48).length < 140737488355328 then (some (wrap64 (Int.tdiv x5 64), x6, Int.tmod x5 8, wrap64 (rd x0 1), t250, t252, (t254) % 4294967296, (t255) % 4294967296, (t256) % 4294967296, t257, t258, t259, t260, (y261 ++ (x0.drop 48)), 0)) else (none)) else (none))))))))))) else (none))) else (none)) else (none))
def timesyncref19_Decode.f (k : Nat) (l0 : List Int) : Option (Int × Int × Int × Int × Int × Int × Int × Int × Int × Int × Int × Int × Int × List Int × Int) := if (l0.length : Int) < 48 then (some (0, 0, 0, 0, 0, 0, 0, 0, 0, 0, 0, 0, 0, ([] : List Int), 5)) else (if 0 < (l0.length : Int) then (if (Int.tmod (wrap64 (Int.tdiv (wrap64 (rd l0 0)) 8)) 8) < 1 then (timesyncref19_Decode.j0 k l0 (wrap64 (rd l0 0)) (Int.tmod (wrap64 (Int.tdiv (wrap64 (rd l0 0)) 8)) 8) true) else (timesyncref19_Decode.j0 k l0 (wrap64 (rd l0 0)) (Int.tmod (wrap64 (Int.tdiv (wrap64 (rd l0 0)) 8)) 8) (decide ((Int.tmod (wrap64 (Int.tdiv (wrap64 (rd l0 0)) 8)) 8) > 4)))) else (none))
theorem timesyncref19_Decode.mono_l : ∀ k, (∀ y0 y1 y2 y3, LeO (timesyncref19_Decode.j0 k y0 y1 y2 y3) (timesyncref19_Decode.j0 (k + 1) y0 y1 y2 y3))
  | 0 => fun _ _ _ _ r h => by simp [timesyncref19_Decode.j0] at h
  | k + 1 => by
    have ih0 := timesyncref19_Decode.mono_l k
    · intro y0 y1 y2 y3
      unfold timesyncref19_Decode.j0
      repeat' first
      | (with_reducible exact ih0 _ _ _ _)
      | (with_reducible exact timesyncref19_get.mono _ _ _ _)
      | (with_reducible exact LeO.refl _)
      | (with_reducible exact LeO.none _)
      | (with_reducible refine LeO.ite ?_ ?_)
      | (with_reducible refine LeO.bind ?_ (fun _ => ?_))
      | exact ih0 _ _ _ _
      | exact timesyncref19_get.mono _ _ _ _
      | exact LeO.none _
      | refine LeO.ite ?_ ?_
      | refine LeO.bind ?_ (fun _ => ?_)
theorem timesyncref19_Decode.mono : ∀ a0 k, LeO (timesyncref19_Decode.f k a0) (timesyncref19_Decode.f (k + 1) a0) := by
  intro a0 k
  have ih0 := timesyncref19_Decode.mono_l k
  unfold timesyncref19_Decode.f
  repeat' first
      | (with_reducible exact ih0 _ _ _ _)
      | (with_reducible exact timesyncref19_get.mono _ _ _ _)
      | (with_reducible exact LeO.refl _)
      | (with_reducible exact LeO.none _)
      | (with_reducible refine LeO.ite ?_ ?_)
      | (with_reducible refine LeO.bind ?_ (fun _ => ?_))
      | exact ih0 _ _ _ _
      | exact timesyncref19_get.mono _ _ _ _
      | exact LeO.none _
      | refine LeO.ite ?_ ?_
      | refine LeO.bind ?_ (fun _ => ?_)
def timesyncref19_Decode.T7 : Bool × List (List Nat × List Nat) := (true, [([], []), ([0], [0]), ([], []), ([], []), ([3], [3]), ([], []), ([5], [5]), ([6], [6]), ([7], [7]), ([], []), ([9], [9]), ([10], [10]), ([11], [11]), ([], []), ([13], [13]), ([14], [14]), ([15, 12], [15]), ([1, 2, 4, 8, 12, 16], [1, 2, 4, 8, 12, 16]), ([], []), ([18, 17, 16, 0, 1, 2, 3, 4, 5, 6, 7, 8, 9, 10, 11, 12, 13, 14, 15, 16, 17, 18], [17, 18])])
def timesyncref19_Decode.B7 : List Nat := [0, 1, 0, 0, 8, 0, 32, 96, 224, 0, 512, 1536, 3584, 0, 8192, 24576, 65024, 131071, 0, 524287]
theorem timesyncref19_Decode.tab7 : rtab .any (opsOf Try.f15 7) = timesyncref19_Decode.T7 := by kernel_rfl
theorem timesyncref19_Decode.bits7 : waitsOk timesyncref19_Decode.T7.2 timesyncref19_Decode.B7 = true := by kernel_rfl
def timesyncref19_Decode.T15 : Bool × List (List Nat × List Nat) := (true, [([], []), ([], []), ([], []), ([2], [2]), ([1, 3], [1, 3]), ([0, 4, 0], [0]), ([4, 5, 0, 1, 2, 3, 4, 5], [4]), ([6, 0, 1, 2, 3, 4, 5, 6], [])])
def timesyncref19_Decode.B15 : List Nat := [0, 0, 0, 4, 14, 31, 63, 127]
theorem timesyncref19_Decode.tab15 : rtab .any (opsOf Try.f15 15) = timesyncref19_Decode.T15 := by kernel_rfl
theorem timesyncref19_Decode.bits15 : waitsOk timesyncref19_Decode.T15.2 timesyncref19_Decode.B15 = true := by kernel_rfl
set_option maxHeartbeats 8000000 in
set_option maxRecDepth 100000 in
theorem timesyncref19_Decode.calls (k : Nat) (A0 : Option Addr) (c0 : Nat) (l0 : List Int) (r1 : Int) (r2 : Int) (r3 : Int) (r4 : Int) (r5 : Int) (r6 : Int) (r7 : Int) (r8 : Int) (r9 : Int) (r10 : Int) (r11 : Int) (r12 : Int) (r13 : Int) (r14 : List Int) (r15 : Int) (w : World) (hr0 : Kd.C (Kd.int .u8) w A0 l0.length l0) (hc0 : l0.length ≤ c0) (h : timesyncref19_Decode.f k l0 = some (r1, r2, r3, r4, r5, r6, r7, r8, r9, r10, r11, r12, r13, r14, r15)) :
    Calls Try.prog 15 #[.slice A0 l0.length c0] w fun e w' => ∃ v13_ : Value, e = .returned (.tuple #[.agg #[.int .i64 r1, .int .i64 r2, .int .i64 r3, .int .i64 r4, .int .i64 r5, .int .i64 r6, .int .u32 r7, .int .u32 r8, .int .u32 r9, .int .u64 r10, .int .u64 r11, .int .u64 r12, .int .u64 r13], v13_, .int .i64 r15]) ∧ Kd.R (Kd.int .u8) 5 w' w.heap.size (fun _ => True) v13_ r14 ∧ Below w.heap.size w w' := by
  have hu25 := Try.underlying25
  have HR0 := Aside0.mk hr0
  have HC0 := Aside0.mk hc0
  clear hr0 hc0
  have HB := Aside0.mk (Below.refl w.heap.size w)
  have H : (if (l0.length : Int) < 48 then (some (0, 0, 0, 0, 0, 0, 0, 0, 0, 0, 0, 0, 0, ([] : List Int), 5)) else (if 0 < (l0.length : Int) then (if (Int.tmod (wrap64 (Int.tdiv (wrap64 (rd l0 0)) 8)) 8) < 1 then (timesyncref19_Decode.j0 k l0 (wrap64 (rd l0 0)) (Int.tmod (wrap64 (Int.tdiv (wrap64 (rd l0 0)) 8)) 8) true) else (timesyncref19_Decode.j0 k l0 (wrap64 (rd l0 0)) (Int.tmod (wrap64 (Int.tdiv (wrap64 (rd l0 0)) 8)) 8) (decide ((Int.tmod (wrap64 (Int.tdiv (wrap64 (rd l0 0)) 8)) 8) > 4)))) else (none))) = some (r1, r2, r3, r4, r5, r6, r7, r8, r9, r10, r11, r12, r13, r14, r15) := h
  clear h
  by_cases c2 : (l0.length : Int) < 48
  · rw [if_pos c2] at H
    have c2b0 : decide ((l0.length : Int) < 48) = true := decide_eq_true c2
    have c2b1 : decide (l0.length < 48) = true := decide_eq_true (by omega)
    clear c2
    simp only [Option.some.injEq, Prod.mk.injEq] at H
    obtain ⟨rfl, rfl, rfl, rfl, rfl, rfl, rfl, rfl, rfl, rfl, rfl, rfl, rfl, rfl, rfl⟩ := H
    go_enter Try.func15, Try.ntmps15
    go_wp2_with (first | ((with_reducible refine gate_dst (N := 2) rfl ?_); refine box_event ?hg (N := 2) ?hd (cs := #[.int .i64 0, .int .i64 0, .int .i64 0, .int .i64 0, .int .i64 0, .int .i64 0, .int .u32 0, .int .u32 0, .int .u32 0, .int .u64 0, .int .u64 0, .int .u64 0, .int .u64 0]) (t := 25) ?hr ?_; (case hd => rfl); (case hg => rfl); (case hr => first | (go_simp; done) | (go_simp; rfl)); intro gb246 hg w3 hbox hb; have n0_ := Aside0.mk (below_step (by repeat (first | (with_reducible first | exact HB.out | apply below_alloc | apply pw_below_drewN | apply below_drew1) | exact HB.out)) hb); have n1_ := Aside0.mk (hbox); have n2_ := Aside0.mk ((by rw [hg]; exact (below_size (by repeat (first | (with_reducible first | exact HB.out | apply below_alloc | apply pw_below_drewN | apply below_drew1) | exact HB.out))) : w.heap.size ≤ gb246)); have n3_ := Aside0.mk ((by rw [hg]; exact (below_size (by repeat (first | (with_reducible first | exact HB.out | apply below_alloc | apply pw_below_drewN | apply below_drew1) | exact HB.out))) : w.heap.size ≤ gb246)); clear HB; have HB := n0_; have BK246 := n1_; have GW246 := n2_; have GE246 := n3_; clear n0_ n1_ n2_ n3_; clear hb hbox hg; have hcz4_0 : w3.cell? ⟨gb246, 0, none⟩ = some (.int .i64 0) := (blk_cell BK246.out 0).trans rfl; have hcz4_1 : w3.cell? ⟨gb246, 1, none⟩ = some (.int .i64 0) := (blk_cell BK246.out 1).trans rfl; have hcz4_2 : w3.cell? ⟨gb246, 2, none⟩ = some (.int .i64 0) := (blk_cell BK246.out 2).trans rfl; have hcz4_3 : w3.cell? ⟨gb246, 3, none⟩ = some (.int .i64 0) := (blk_cell BK246.out 3).trans rfl; have hcz4_4 : w3.cell? ⟨gb246, 4, none⟩ = some (.int .i64 0) := (blk_cell BK246.out 4).trans rfl; have hcz4_5 : w3.cell? ⟨gb246, 5, none⟩ = some (.int .i64 0) := (blk_cell BK246.out 5).trans rfl; have hcz4_6 : w3.cell? ⟨gb246, 6, none⟩ = some (.int .u32 0) := (blk_cell BK246.out 6).trans rfl; have hcz4_7 : w3.cell? ⟨gb246, 7, none⟩ = some (.int .u32 0) := (blk_cell BK246.out 7).trans rfl; have hcz4_8 : w3.cell? ⟨gb246, 8, none⟩ = some (.int .u32 0) := (blk_cell BK246.out 8).trans rfl; have hcz4_9 : w3.cell? ⟨gb246, 9, none⟩ = some (.int .u64 0) := (blk_cell BK246.out 9).trans rfl; have hcz4_10 : w3.cell? ⟨gb246, 10, none⟩ = some (.int .u64 0) := (blk_cell BK246.out 10).trans rfl; have hcz4_11 : w3.cell? ⟨gb246, 11, none⟩ = some (.int .u64 0) := (blk_cell BK246.out 11).trans rfl; have hcz4_12 : w3.cell? ⟨gb246, 12, none⟩ = some (.int .u64 0) := (blk_cell BK246.out 12).trans rfl; have hfz4_0 := blk_frozen BK246.out 0; have hfz4_1 := blk_frozen BK246.out 1; have hfz4_2 := blk_frozen BK246.out 2; have hfz4_3 := blk_frozen BK246.out 3; have hfz4_4 := blk_frozen BK246.out 4; have hfz4_5 := blk_frozen BK246.out 5; have hfz4_6 := blk_frozen BK246.out 6; have hfz4_7 := blk_frozen BK246.out 7; have hfz4_8 := blk_frozen BK246.out 8; have hfz4_9 := blk_frozen BK246.out 9; have hfz4_10 := blk_frozen BK246.out 10; have hfz4_11 := blk_frozen BK246.out 11; have hfz4_12 := blk_frozen BK246.out 12))
    refine bodyPost_ret (results_ctt rfl _ _ gb246 25 #[.int .i64 0, .int .i64 0, .int .i64 0, .int .i64 0, .int .i64 0, .int .i64 0, .int .u32 0, .int .u32 0, .int .u32 0, .int .u64 0, .int .u64 0, .int .u64 0, .int .u64 0] (0, 0) _ rfl (by (with_reducible repeat (first | refine blk_drewN ?_ _ | refine blk_drew ?_ | refine blk_alloc ?_ _)); refine blk_put (cs := #[.int .i64 0, .int .i64 0, .int .i64 0, .int .i64 0, .int .i64 0, .int .i64 0, .int .u32 0, .int .u32 0, .int .u32 0, .int .u64 0, .int .u64 0, .int .u64 0, .int .u64 0]) ?_ 12 _ rfl; (with_reducible repeat (first | refine blk_drewN ?_ _ | refine blk_drew ?_ | refine blk_alloc ?_ _)); refine blk_put (cs := #[.int .i64 0, .int .i64 0, .int .i64 0, .int .i64 0, .int .i64 0, .int .i64 0, .int .u32 0, .int .u32 0, .int .u32 0, .int .u64 0, .int .u64 0, .int .u64 0, .int .u64 0]) ?_ 11 _ rfl; (with_reducible repeat (first | refine blk_drewN ?_ _ | refine blk_drew ?_ | refine blk_alloc ?_ _)); refine blk_put (cs := #[.int .i64 0, .int .i64 0, .int .i64 0, .int .i64 0, .int .i64 0, .int .i64 0, .int .u32 0, .int .u32 0, .int .u32 0, .int .u64 0, .int .u64 0, .int .u64 0, .int .u64 0]) ?_ 10 _ rfl; (with_reducible repeat (first | refine blk_drewN ?_ _ | refine blk_drew ?_ | refine blk_alloc ?_ _)); refine blk_put (cs := #[.int .i64 0, .int .i64 0, .int .i64 0, .int .i64 0, .int .i64 0, .int .i64 0, .int .u32 0, .int .u32 0, .int .u32 0, .int .u64 0, .int .u64 0, .int .u64 0, .int .u64 0]) ?_ 9 _ rfl; (with_reducible repeat (first | refine blk_drewN ?_ _ | refine blk_drew ?_ | refine blk_alloc ?_ _)); refine blk_put (cs := #[.int .i64 0, .int .i64 0, .int .i64 0, .int .i64 0, .int .i64 0, .int .i64 0, .int .u32 0, .int .u32 0, .int .u32 0, .int .u64 0, .int .u64 0, .int .u64 0, .int .u64 0]) ?_ 8 _ rfl; (with_reducible repeat (first | refine blk_drewN ?_ _ | refine blk_drew ?_ | refine blk_alloc ?_ _)); refine blk_put (cs := #[.int .i64 0, .int .i64 0, .int .i64 0, .int .i64 0, .int .i64 0, .int .i64 0, .int .u32 0, .int .u32 0, .int .u32 0, .int .u64 0, .int .u64 0, .int .u64 0, .int .u64 0]) ?_ 7 _ rfl; (with_reducible repeat (first | refine blk_drewN ?_ _ | refine blk_drew ?_ | refine blk_alloc ?_ _)); refine blk_put (cs := #[.int .i64 0, .int .i64 0, .int .i64 0, .int .i64 0, .int .i64 0, .int .i64 0, .int .u32 0, .int .u32 0, .int .u32 0, .int .u64 0, .int .u64 0, .int .u64 0, .int .u64 0]) ?_ 6 _ rfl; (with_reducible repeat (first | refine blk_drewN ?_ _ | refine blk_drew ?_ | refine blk_alloc ?_ _)); refine blk_put (cs := #[.int .i64 0, .int .i64 0, .int .i64 0, .int .i64 0, .int .i64 0, .int .i64 0, .int .u32 0, .int .u32 0, .int .u32 0, .int .u64 0, .int .u64 0, .int .u64 0, .int .u64 0]) ?_ 5 _ rfl; (with_reducible repeat (first | refine blk_drewN ?_ _ | refine blk_drew ?_ | refine blk_alloc ?_ _)); refine blk_put (cs := #[.int .i64 0, .int .i64 0, .int .i64 0, .int .i64 0, .int .i64 0, .int .i64 0, .int .u32 0, .int .u32 0, .int .u32 0, .int .u64 0, .int .u64 0, .int .u64 0, .int .u64 0]) ?_ 4 _ rfl; (with_reducible repeat (first | refine blk_drewN ?_ _ | refine blk_drew ?_ | refine blk_alloc ?_ _)); refine blk_put (cs := #[.int .i64 0, .int .i64 0, .int .i64 0, .int .i64 0, .int .i64 0, .int .i64 0, .int .u32 0, .int .u32 0, .int .u32 0, .int .u64 0, .int .u64 0, .int .u64 0, .int .u64 0]) ?_ 3 _ rfl; (with_reducible repeat (first | refine blk_drewN ?_ _ | refine blk_drew ?_ | refine blk_alloc ?_ _)); refine blk_put (cs := #[.int .i64 0, .int .i64 0, .int .i64 0, .int .i64 0, .int .i64 0, .int .i64 0, .int .u32 0, .int .u32 0, .int .u32 0, .int .u64 0, .int .u64 0, .int .u64 0, .int .u64 0]) ?_ 2 _ rfl; (with_reducible repeat (first | refine blk_drewN ?_ _ | refine blk_drew ?_ | refine blk_alloc ?_ _)); refine blk_put (cs := #[.int .i64 0, .int .i64 0, .int .i64 0, .int .i64 0, .int .i64 0, .int .i64 0, .int .u32 0, .int .u32 0, .int .u32 0, .int .u64 0, .int .u64 0, .int .u64 0, .int .u64 0]) ?_ 1 _ rfl; (with_reducible repeat (first | refine blk_drewN ?_ _ | refine blk_drew ?_ | refine blk_alloc ?_ _)); refine blk_put (cs := #[.int .i64 0, .int .i64 0, .int .i64 0, .int .i64 0, .int .i64 0, .int .i64 0, .int .u32 0, .int .u32 0, .int .u32 0, .int .u64 0, .int .u64 0, .int .u64 0, .int .u64 0]) ?_ 0 _ rfl; (with_reducible repeat (first | refine blk_drewN ?_ _ | refine blk_drew ?_ | refine blk_alloc ?_ _)); exact BK246.out) Try.underlying25 rfl (by kernel_rfl)) rfl ?_
    exact ⟨_, by first | rfl | (simp [errW_none, errW_some] <;> rfl) | (simp [*, errW_none, errW_some] <;> rfl), by first | exact Kd.R_nil _ _ _ _ _ | exact Kd.N_nil _ _ _ _ _ | exact Kd.V_nil _ _ _ _ _ | exact Kd.Q_nil _ _ _ _ _ | exact Kd.S_nil _ _ _ _ _, by repeat (first | (with_reducible first | exact HB.out | apply below_alloc | apply pw_below_drewN | apply below_drew1 | refine below_set ?_ GE246.out) | exact HB.out)⟩
  · rw [if_neg c2] at H
    have c2b0 : decide ((l0.length : Int) < 48) = false := decide_eq_false c2
    have c2b1 : decide (l0.length < 48) = false := decide_eq_false (by omega)
    clear c2
    by_cases c5 : 0 < (l0.length : Int)
    · rw [if_pos c5] at H
      have c5b0 : decide (0 < (l0.length : Int)) = true := decide_eq_true c5
      have c5b1 : decide (0 < l0.length) = true := decide_eq_true (by omega)
      clear c5
      have HC6 := Aside0.mk H
      clear H
      go_enter Try.func15, Try.ntmps15
      go_upto_region 5 with (first | ((with_reducible refine gate_dst (N := 2) rfl ?_); refine box_event ?hg (N := 2) ?hd (cs := #[.int .i64 0, .int .i64 0, .int .i64 0, .int .i64 0, .int .i64 0, .int .i64 0, .int .u32 0, .int .u32 0, .int .u32 0, .int .u64 0, .int .u64 0, .int .u64 0, .int .u64 0]) (t := 25) ?hr ?_; (case hd => rfl); (case hg => rfl); (case hr => first | (go_simp; done) | (go_simp; rfl)); intro gb246 hg w7 hbox hb; have n0_ := Aside0.mk (below_step (by repeat (first | (with_reducible first | exact HB.out | apply below_alloc | apply pw_below_drewN | apply below_drew1) | exact HB.out)) hb); have n1_ := Aside0.mk (hbox); have n2_ := Aside0.mk ((by rw [hg]; exact (below_size (by repeat (first | (with_reducible first | exact HB.out | apply below_alloc | apply pw_below_drewN | apply below_drew1) | exact HB.out))) : w.heap.size ≤ gb246)); have n3_ := Aside0.mk ((by rw [hg]; exact (below_size (by repeat (first | (with_reducible first | exact HB.out | apply below_alloc | apply pw_below_drewN | apply below_drew1) | exact HB.out))) : w.heap.size ≤ gb246)); clear HB; have HB := n0_; have BK246 := n1_; have GW246 := n2_; have GE246 := n3_; clear n0_ n1_ n2_ n3_; clear hb hbox hg; have p247 : 0 ≤ (0 : Int) := (by omega); have q247 : 0 < (l0.length : Int) := of_decide_eq_true (by first | (with_reducible assumption) | assumption); obtain ⟨ad247, e247, hx247_0⟩ := Kd.at_int HR0.out 0 p247 q247; cases e247; have qi247 : (0 < l0.length) = True := eq_true (by omega); (try rw [show ((0 : Int)).toNat = 0 from rfl] at hx247_0); (try rw [Addr.add_zero'] at hx247_0); replace hx247_0 := (HB.out.cell (World.block_lt_of_cell? w _ hx247_0)).trans hx247_0; replace p247 := eq_true p247; replace q247 := eq_true q247))
      (try simp only [Act.put, List.setIfInBounds_toArray, List.set_cons_zero, List.set_cons_succ])
      go_cut [24] (fun v24 wc => ∃ (kq : Nat) (x24_5 : Bool), v24 = .bool x24_5 ∧ Aside0 (timesyncref19_Decode.j0 kq l0 (wrap64 (rd l0 0)) (Int.tmod (wrap64 (Int.tdiv (wrap64 (rd l0 0)) 8)) 8) x24_5 = some (r1, r2, r3, r4, r5, r6, r7, r8, r9, r10, r11, r12, r13, r14, r15)) ∧ Aside0 (kq ≤ k) ∧ Aside0 (wc.heap[gb246]? = some (.cells #[.int .i64 0, .int .i64 0, .int .i64 0, .int .i64 0, .int .i64 0, .int .i64 0, .int .u32 0, .int .u32 0, .int .u32 0, .int .u64 0, .int .u64 0, .int .u64 0, .int .u64 0] 25 (0, 0))) ∧ Aside0 (Below w.heap.size w wc))
      case first =>
        have H := HC6.out
        clear HC6
        by_cases c8 : (Int.tmod (wrap64 (Int.tdiv (wrap64 (rd l0 0)) 8)) 8) < 1
        · rw [if_pos c8] at H
          have c8b0 : decide ((Int.tmod (wrap64 (Int.tdiv (wrap64 (rd l0 0)) 8)) 8) < 1) = true := decide_eq_true c8
          clear c8
          (first | rw [c8b0] | (simp only [i64_w, i32_w]; rw [c8b0]) | skip)
          have H' := Aside0.mk H
          clear H
          go_wp2
          go_meet
          case rel => exact ⟨_, (true), (by first | rfl | (simp; done) | (simp [*]; done)), H', ⟨by first | omega | exact Nat.le_refl _⟩, ⟨by (with_reducible repeat (first | refine blk_drewN ?_ _ | refine blk_drew ?_ | refine blk_alloc ?_ _)); exact BK246.out⟩, ⟨by repeat (first | (with_reducible first | exact HB.out | apply below_alloc | apply pw_below_drewN | apply below_drew1 | refine below_set ?_ GE246.out) | exact HB.out)⟩⟩
        · rw [if_neg c8] at H
          have c8b0 : decide ((Int.tmod (wrap64 (Int.tdiv (wrap64 (rd l0 0)) 8)) 8) < 1) = false := decide_eq_false c8
          clear c8
          (first | rw [c8b0] | (simp only [i64_w, i32_w]; rw [c8b0]) | skip)
          have H' := Aside0.mk H
          clear H
          go_wp2
          go_meet
          case rel => exact ⟨_, (decide ((Int.tmod (wrap64 (Int.tdiv (wrap64 (rd l0 0)) 8)) 8) > 4)), (by first | rfl | (simp; done) | (simp [*]; done)), H', ⟨by first | omega | exact Nat.le_refl _⟩, ⟨by (with_reducible repeat (first | refine blk_drewN ?_ _ | refine blk_drew ?_ | refine blk_alloc ?_ _)); exact BK246.out⟩, ⟨by repeat (first | (with_reducible first | exact HB.out | apply below_alloc | apply pw_below_drewN | apply below_drew1 | refine below_set ?_ GE246.out) | exact HB.out)⟩⟩
      case rest =>
        clear HC6
        try clear c1
        try clear c2
        try clear c2b0
        try clear c2b1
        try clear p2
        try clear q2
        try clear hx2
        try clear qi2
        try clear c5
        try clear c5b0
        try clear c5b1
        try clear p6
        try clear c8
        try clear c8b0
        try clear hcz4_0
        try clear hcz4_1
        try clear hcz4_10
        try clear hcz4_11
        try clear hcz4_12
        try clear hcz4_2
        try clear hcz4_3
        try clear hcz4_4
        try clear hcz4_5
        try clear hcz4_6
        try clear hcz4_7
        try clear hcz4_8
        try clear hcz4_9
        try clear hfz4_0
        try clear hfz4_1
        try clear hfz4_10
        try clear hfz4_11
        try clear hfz4_12
        try clear hfz4_2
        try clear hfz4_3
        try clear hfz4_4
        try clear hfz4_5
        try clear hfz4_6
        try clear hfz4_7
        try clear hfz4_8
        try clear hfz4_9
        try clear hx247_0
        try clear p247
        try clear q247
        obtain ⟨kq, x24_5, rfl, HA, HJ5, BK246, HB⟩ := hcut
        cases kq with
        | zero => exact absurd HA.out (by simp [timesyncref19_Decode.j0])
        | succ kj5 =>
          have H := HA.out
          clear HA
          simp only [timesyncref19_Decode.j0] at H
          by_cases c9 : x24_5 = true
          · subst c9
            have H1 : (some (0, 0, 0, 0, 0, 0, 0, 0, 0, 0, 0, 0, 0, ([] : List Int), 8)) = some (r1, r2, r3, r4, r5, r6, r7, r8, r9, r10, r11, r12, r13, r14, r15) := by rw [if_pos rfl] at H; exact H
            clear H
            have H := H1
            clear H1
            simp only [Option.some.injEq, Prod.mk.injEq] at H
            obtain ⟨rfl, rfl, rfl, rfl, rfl, rfl, rfl, rfl, rfl, rfl, rfl, rfl, rfl, rfl, rfl⟩ := H
            have hcz10_0 : wc.cell? ⟨gb246, 0, none⟩ = some (.int .i64 0) := (blk_cell BK246.out 0).trans rfl
            have hcz10_1 : wc.cell? ⟨gb246, 1, none⟩ = some (.int .i64 0) := (blk_cell BK246.out 1).trans rfl
            have hcz10_2 : wc.cell? ⟨gb246, 2, none⟩ = some (.int .i64 0) := (blk_cell BK246.out 2).trans rfl
            have hcz10_3 : wc.cell? ⟨gb246, 3, none⟩ = some (.int .i64 0) := (blk_cell BK246.out 3).trans rfl
            have hcz10_4 : wc.cell? ⟨gb246, 4, none⟩ = some (.int .i64 0) := (blk_cell BK246.out 4).trans rfl
            have hcz10_5 : wc.cell? ⟨gb246, 5, none⟩ = some (.int .i64 0) := (blk_cell BK246.out 5).trans rfl
            have hcz10_6 : wc.cell? ⟨gb246, 6, none⟩ = some (.int .u32 0) := (blk_cell BK246.out 6).trans rfl
            have hcz10_7 : wc.cell? ⟨gb246, 7, none⟩ = some (.int .u32 0) := (blk_cell BK246.out 7).trans rfl
            have hcz10_8 : wc.cell? ⟨gb246, 8, none⟩ = some (.int .u32 0) := (blk_cell BK246.out 8).trans rfl
            have hcz10_9 : wc.cell? ⟨gb246, 9, none⟩ = some (.int .u64 0) := (blk_cell BK246.out 9).trans rfl
            have hcz10_10 : wc.cell? ⟨gb246, 10, none⟩ = some (.int .u64 0) := (blk_cell BK246.out 10).trans rfl
            have hcz10_11 : wc.cell? ⟨gb246, 11, none⟩ = some (.int .u64 0) := (blk_cell BK246.out 11).trans rfl
            have hcz10_12 : wc.cell? ⟨gb246, 12, none⟩ = some (.int .u64 0) := (blk_cell BK246.out 12).trans rfl
            have hfz10_0 := blk_frozen BK246.out 0
            have hfz10_1 := blk_frozen BK246.out 1
            have hfz10_2 := blk_frozen BK246.out 2
            have hfz10_3 := blk_frozen BK246.out 3
            have hfz10_4 := blk_frozen BK246.out 4
            have hfz10_5 := blk_frozen BK246.out 5
            have hfz10_6 := blk_frozen BK246.out 6
            have hfz10_7 := blk_frozen BK246.out 7
            have hfz10_8 := blk_frozen BK246.out 8
            have hfz10_9 := blk_frozen BK246.out 9
            have hfz10_10 := blk_frozen BK246.out 10
            have hfz10_11 := blk_frozen BK246.out 11
            have hfz10_12 := blk_frozen BK246.out 12
            go_wp2
            refine bodyPost_ret (results_ctt rfl _ _ gb246 25 #[.int .i64 0, .int .i64 0, .int .i64 0, .int .i64 0, .int .i64 0, .int .i64 0, .int .u32 0, .int .u32 0, .int .u32 0, .int .u64 0, .int .u64 0, .int .u64 0, .int .u64 0] (0, 0) _ rfl (by (with_reducible repeat (first | refine blk_drewN ?_ _ | refine blk_drew ?_ | refine blk_alloc ?_ _)); refine blk_put (cs := #[.int .i64 0, .int .i64 0, .int .i64 0, .int .i64 0, .int .i64 0, .int .i64 0, .int .u32 0, .int .u32 0, .int .u32 0, .int .u64 0, .int .u64 0, .int .u64 0, .int .u64 0]) ?_ 12 _ rfl; (with_reducible repeat (first | refine blk_drewN ?_ _ | refine blk_drew ?_ | refine blk_alloc ?_ _)); refine blk_put (cs := #[.int .i64 0, .int .i64 0, .int .i64 0, .int .i64 0, .int .i64 0, .int .i64 0, .int .u32 0, .int .u32 0, .int .u32 0, .int .u64 0, .int .u64 0, .int .u64 0, .int .u64 0]) ?_ 11 _ rfl; (with_reducible repeat (first | refine blk_drewN ?_ _ | refine blk_drew ?_ | refine blk_alloc ?_ _)); refine blk_put (cs := #[.int .i64 0, .int .i64 0, .int .i64 0, .int .i64 0, .int .i64 0, .int .i64 0, .int .u32 0, .int .u32 0, .int .u32 0, .int .u64 0, .int .u64 0, .int .u64 0, .int .u64 0]) ?_ 10 _ rfl; (with_reducible repeat (first | refine blk_drewN ?_ _ | refine blk_drew ?_ | refine blk_alloc ?_ _)); refine blk_put (cs := #[.int .i64 0, .int .i64 0, .int .i64 0, .int .i64 0, .int .i64 0, .int .i64 0, .int .u32 0, .int .u32 0, .int .u32 0, .int .u64 0, .int .u64 0, .int .u64 0, .int .u64 0]) ?_ 9 _ rfl; (with_reducible repeat (first | refine blk_drewN ?_ _ | refine blk_drew ?_ | refine blk_alloc ?_ _)); refine blk_put (cs := #[.int .i64 0, .int .i64 0, .int .i64 0, .int .i64 0, .int .i64 0, .int .i64 0, .int .u32 0, .int .u32 0, .int .u32 0, .int .u64 0, .int .u64 0, .int .u64 0, .int .u64 0]) ?_ 8 _ rfl; (with_reducible repeat (first | refine blk_drewN ?_ _ | refine blk_drew ?_ | refine blk_alloc ?_ _)); refine blk_put (cs := #[.int .i64 0, .int .i64 0, .int .i64 0, .int .i64 0, .int .i64 0, .int .i64 0, .int .u32 0, .int .u32 0, .int .u32 0, .int .u64 0, .int .u64 0, .int .u64 0, .int .u64 0]) ?_ 7 _ rfl; (with_reducible repeat (first | refine blk_drewN ?_ _ | refine blk_drew ?_ | refine blk_alloc ?_ _)); refine blk_put (cs := #[.int .i64 0, .int .i64 0, .int .i64 0, .int .i64 0, .int .i64 0, .int .i64 0, .int .u32 0, .int .u32 0, .int .u32 0, .int .u64 0, .int .u64 0, .int .u64 0, .int .u64 0]) ?_ 6 _ rfl; (with_reducible repeat (first | refine blk_drewN ?_ _ | refine blk_drew ?_ | refine blk_alloc ?_ _)); refine blk_put (cs := #[.int .i64 0, .int .i64 0, .int .i64 0, .int .i64 0, .int .i64 0, .int .i64 0, .int .u32 0, .int .u32 0, .int .u32 0, .int .u64 0, .int .u64 0, .int .u64 0, .int .u64 0]) ?_ 5 _ rfl; (with_reducible repeat (first | refine blk_drewN ?_ _ | refine blk_drew ?_ | refine blk_alloc ?_ _)); refine blk_put (cs := #[.int .i64 0, .int .i64 0, .int .i64 0, .int .i64 0, .int .i64 0, .int .i64 0, .int .u32 0, .int .u32 0, .int .u32 0, .int .u64 0, .int .u64 0, .int .u64 0, .int .u64 0]) ?_ 4 _ rfl; (with_reducible repeat (first | refine blk_drewN ?_ _ | refine blk_drew ?_ | refine blk_alloc ?_ _)); refine blk_put (cs := #[.int .i64 0, .int .i64 0, .int .i64 0, .int .i64 0, .int .i64 0, .int .i64 0, .int .u32 0, .int .u32 0, .int .u32 0, .int .u64 0, .int .u64 0, .int .u64 0, .int .u64 0]) ?_ 3 _ rfl; (with_reducible repeat (first | refine blk_drewN ?_ _ | refine blk_drew ?_ | refine blk_alloc ?_ _)); refine blk_put (cs := #[.int .i64 0, .int .i64 0, .int .i64 0, .int .i64 0, .int .i64 0, .int .i64 0, .int .u32 0, .int .u32 0, .int .u32 0, .int .u64 0, .int .u64 0, .int .u64 0, .int .u64 0]) ?_ 2 _ rfl; (with_reducible repeat (first | refine blk_drewN ?_ _ | refine blk_drew ?_ | refine blk_alloc ?_ _)); refine blk_put (cs := #[.int .i64 0, .int .i64 0, .int .i64 0, .int .i64 0, .int .i64 0, .int .i64 0, .int .u32 0, .int .u32 0, .int .u32 0, .int .u64 0, .int .u64 0, .int .u64 0, .int .u64 0]) ?_ 1 _ rfl; (with_reducible repeat (first | refine blk_drewN ?_ _ | refine blk_drew ?_ | refine blk_alloc ?_ _)); refine blk_put (cs := #[.int .i64 0, .int .i64 0, .int .i64 0, .int .i64 0, .int .i64 0, .int .i64 0, .int .u32 0, .int .u32 0, .int .u32 0, .int .u64 0, .int .u64 0, .int .u64 0, .int .u64 0]) ?_ 0 _ rfl; (with_reducible repeat (first | refine blk_drewN ?_ _ | refine blk_drew ?_ | refine blk_alloc ?_ _)); exact BK246.out) Try.underlying25 rfl (by kernel_rfl)) rfl ?_
            exact ⟨_, by first | rfl | (simp [errW_none, errW_some] <;> rfl) | (simp [*, errW_none, errW_some] <;> rfl), by first | exact Kd.R_nil _ _ _ _ _ | exact Kd.N_nil _ _ _ _ _ | exact Kd.V_nil _ _ _ _ _ | exact Kd.Q_nil _ _ _ _ _ | exact Kd.S_nil _ _ _ _ _, by repeat (first | (with_reducible first | exact HB.out | apply below_alloc | apply pw_below_drewN | apply below_drew1 | refine below_set ?_ GE246.out) | exact HB.out)⟩
          · replace c9 := Bool.eq_false_iff.mpr c9
            subst c9
            have H1 : (if 1 < (l0.length : Int) then (if 2 < (l0.length : Int) then ((timesyncref19_signed.f (rd l0 2)).bind fun t250 => (if 3 < (l0.length : Int) then ((timesyncref19_signed.f (rd l0 3)).bind fun t252 => ((timesyncref19_get.f kj5 l0 4 4).bind fun t254 => ((timesyncref19_get.f kj5 l0 8 4).bind fun t255 => ((timesyncref19_get.f kj5 l0 12 4).bind fun t256 => ((timesyncref19_get.f kj5 l0 16 8).bind fun t257 => ((timesyncref19_get.f kj5 l0 24 8).bind fun t258 => ((timesyncref19_get.f kj5 l0 32 8).bind fun t259 => ((timesyncref19_get.f kj5 l0 40 8).bind fun t260 => ((some (([] : List Int) : List Int)).bind fun y261 => (if 48 ≤ (l0.length : Int) then (if y261.length + (l0.drop 48).length < 140737488355328 then (some (wrap64 (Int.tdiv (wrap64 (rd l0 0)) 64), (Int.tmod (wrap64 (Int.tdiv (wrap64 (rd l0 0)) 8)) 8), Int.tmod (wrap64 (rd l0 0)) 8, wrap64 (rd l0 1), t250, t252, (t254) % 4294967296, (t255) % 4294967296, (t256) % 4294967296, t257, t258, t259, t260, (y261 ++ (l0.drop 48)), 0)) else (none)) else (none))))))))))) else (none))) else (none)) else (none)) = some (r1, r2, r3, r4, r5, r6, r7, r8, r9, r10, r11, r12, r13, r14, r15) := by rw [if_neg (show ¬ (false = true) by decide)] at H; exact H
            clear H
            have H := H1
            clear H1
            by_cases c11 : 1 < (l0.length : Int)
            · rw [if_pos c11] at H
              have c11b0 : decide (1 < (l0.length : Int)) = true := decide_eq_true c11
              have c11b1 : decide (1 < l0.length) = true := decide_eq_true (by omega)
              clear c11
              by_cases c12 : 2 < (l0.length : Int)
              · rw [if_pos c12] at H
                have c12b0 : decide (2 < (l0.length : Int)) = true := decide_eq_true c12
                have c12b1 : decide (2 < l0.length) = true := decide_eq_true (by omega)
                clear c12
                replace H := Option.bind_eq_some_iff.mp H
                obtain ⟨t250, A130, H⟩ := H
                replace H : (if 3 < (l0.length : Int) then ((timesyncref19_signed.f (rd l0 3)).bind fun t252 => ((timesyncref19_get.f kj5 l0 4 4).bind fun t254 => ((timesyncref19_get.f kj5 l0 8 4).bind fun t255 => ((timesyncref19_get.f kj5 l0 12 4).bind fun t256 => ((timesyncref19_get.f kj5 l0 16 8).bind fun t257 => ((timesyncref19_get.f kj5 l0 24 8).bind fun t258 => ((timesyncref19_get.f kj5 l0 32 8).bind fun t259 => ((timesyncref19_get.f kj5 l0 40 8).bind fun t260 => ((some (([] : List Int) : List Int)).bind fun y261 => (if 48 ≤ (l0.length : Int) then (if y261.length + (l0.drop 48).length < 140737488355328 then (some (wrap64 (Int.tdiv (wrap64 (rd l0 0)) 64), (Int.tmod (wrap64 (Int.tdiv (wrap64 (rd l0 0)) 8)) 8), Int.tmod (wrap64 (rd l0 0)) 8, wrap64 (rd l0 1), t250, t252, (t254) % 4294967296, (t255) % 4294967296, (t256) % 4294967296, t257, t258, t259, t260, (y261 ++ (l0.drop 48)), 0)) else (none)) else (none))))))))))) else (none)) = some (r1, r2, r3, r4, r5, r6, r7, r8, r9, r10, r11, r12, r13, r14, r15) := H
                have A13 := Aside0.mk A130
                clear A130
                by_cases c14 : 3 < (l0.length : Int)
                · rw [if_pos c14] at H
                  have c14b0 : decide (3 < (l0.length : Int)) = true := decide_eq_true c14
                  have c14b1 : decide (3 < l0.length) = true := decide_eq_true (by omega)
                  clear c14
                  replace H := Option.bind_eq_some_iff.mp H
                  obtain ⟨t252, A150, H⟩ := H
                  replace H : ((timesyncref19_get.f kj5 l0 4 4).bind fun t254 => ((timesyncref19_get.f kj5 l0 8 4).bind fun t255 => ((timesyncref19_get.f kj5 l0 12 4).bind fun t256 => ((timesyncref19_get.f kj5 l0 16 8).bind fun t257 => ((timesyncref19_get.f kj5 l0 24 8).bind fun t258 => ((timesyncref19_get.f kj5 l0 32 8).bind fun t259 => ((timesyncref19_get.f kj5 l0 40 8).bind fun t260 => ((some (([] : List Int) : List Int)).bind fun y261 => (if 48 ≤ (l0.length : Int) then (if y261.length + (l0.drop 48).length < 140737488355328 then (some (wrap64 (Int.tdiv (wrap64 (rd l0 0)) 64), (Int.tmod (wrap64 (Int.tdiv (wrap64 (rd l0 0)) 8)) 8), Int.tmod (wrap64 (rd l0 0)) 8, wrap64 (rd l0 1), t250, t252, (t254) % 4294967296, (t255) % 4294967296, (t256) % 4294967296, t257, t258, t259, t260, (y261 ++ (l0.drop 48)), 0)) else (none)) else (none)))))))))) = some (r1, r2, r3, r4, r5, r6, r7, r8, r9, r10, r11, r12, r13, r14, r15) := H
                  have A15 := Aside0.mk A150
                  clear A150
                  replace H := Option.bind_eq_some_iff.mp H
                  obtain ⟨t254, A160, H⟩ := H
                  replace H : ((timesyncref19_get.f kj5 l0 8 4).bind fun t255 => ((timesyncref19_get.f kj5 l0 12 4).bind fun t256 => ((timesyncref19_get.f kj5 l0 16 8).bind fun t257 => ((timesyncref19_get.f kj5 l0 24 8).bind fun t258 => ((timesyncref19_get.f kj5 l0 32 8).bind fun t259 => ((timesyncref19_get.f kj5 l0 40 8).bind fun t260 => ((some (([] : List Int) : List Int)).bind fun y261 => (if 48 ≤ (l0.length : Int) then (if y261.length + (l0.drop 48).length < 140737488355328 then (some (wrap64 (Int.tdiv (wrap64 (rd l0 0)) 64), (Int.tmod (wrap64 (Int.tdiv (wrap64 (rd l0 0)) 8)) 8), Int.tmod (wrap64 (rd l0 0)) 8, wrap64 (rd l0 1), t250, t252, (t254) % 4294967296, (t255) % 4294967296, (t256) % 4294967296, t257, t258, t259, t260, (y261 ++ (l0.drop 48)), 0)) else (none)) else (none))))))))) = some (r1, r2, r3, r4, r5, r6, r7, r8, r9, r10, r11, r12, r13, r14, r15) := H
                  have A16 := Aside0.mk A160
                  clear A160
                  replace H := Option.bind_eq_some_iff.mp H
                  obtain ⟨t255, A170, H⟩ := H
                  replace H : ((timesyncref19_get.f kj5 l0 12 4).bind fun t256 => ((timesyncref19_get.f kj5 l0 16 8).bind fun t257 => ((timesyncref19_get.f kj5 l0 24 8).bind fun t258 => ((timesyncref19_get.f kj5 l0 32 8).bind fun t259 => ((timesyncref19_get.f kj5 l0 40 8).bind fun t260 => ((some (([] : List Int) : List Int)).bind fun y261 => (if 48 ≤ (l0.length : Int) then (if y261.length + (l0.drop 48).length < 140737488355328 then (some (wrap64 (Int.tdiv (wrap64 (rd l0 0)) 64), (Int.tmod (wrap64 (Int.tdiv (wrap64 (rd l0 0)) 8)) 8), Int.tmod (wrap64 (rd l0 0)) 8, wrap64 (rd l0 1), t250, t252, (t254) % 4294967296, (t255) % 4294967296, (t256) % 4294967296, t257, t258, t259, t260, (y261 ++ (l0.drop 48)), 0)) else (none)) else (none)))))))) = some (r1, r2, r3, r4, r5, r6, r7, r8, r9, r10, r11, r12, r13, r14, r15) := H
                  have A17 := Aside0.mk A170
                  clear A170
                  replace H := Option.bind_eq_some_iff.mp H
                  obtain ⟨t256, A180, H⟩ := H
                  replace H : ((timesyncref19_get.f kj5 l0 16 8).bind fun t257 => ((timesyncref19_get.f kj5 l0 24 8).bind fun t258 => ((timesyncref19_get.f kj5 l0 32 8).bind fun t259 => ((timesyncref19_get.f kj5 l0 40 8).bind fun t260 => ((some (([] : List Int) : List Int)).bind fun y261 => (if 48 ≤ (l0.length : Int) then (if y261.length + (l0.drop 48).length < 140737488355328 then (some (wrap64 (Int.tdiv (wrap64 (rd l0 0)) 64), (Int.tmod (wrap64 (Int.tdiv (wrap64 (rd l0 0)) 8)) 8), Int.tmod (wrap64 (rd l0 0)) 8, wrap64 (rd l0 1), t250, t252, (t254) % 4294967296, (t255) % 4294967296, (t256) % 4294967296, t257, t258, t259, t260, (y261 ++ (l0.drop 48)), 0)) else (none)) else (none))))))) = some (r1, r2, r3, r4, r5, r6, r7, r8, r9, r10, r11, r12, r13, r14, r15) := H
                  have A18 := Aside0.mk A180
                  clear A180
                  replace H := Option.bind_eq_some_iff.mp H
                  obtain ⟨t257, A190, H⟩ := H
                  replace H : ((timesyncref19_get.f kj5 l0 24 8).bind fun t258 => ((timesyncref19_get.f kj5 l0 32 8).bind fun t259 => ((timesyncref19_get.f kj5 l0 40 8).bind fun t260 => ((some (([] : List Int) : List Int)).bind fun y261 => (if 48 ≤ (l0.length : Int) then (if y261.length + (l0.drop 48).length < 140737488355328 then (some (wrap64 (Int.tdiv (wrap64 (rd l0 0)) 64), (Int.tmod (wrap64 (Int.tdiv (wrap64 (rd l0 0)) 8)) 8), Int.tmod (wrap64 (rd l0 0)) 8, wrap64 (rd l0 1), t250, t252, (t254) % 4294967296, (t255) % 4294967296, (t256) % 4294967296, t257, t258, t259, t260, (y261 ++ (l0.drop 48)), 0)) else (none)) else (none)))))) = some (r1, r2, r3, r4, r5, r6, r7, r8, r9, r10, r11, r12, r13, r14, r15) := H
                  have A19 := Aside0.mk A190
                  clear A190
                  replace H := Option.bind_eq_some_iff.mp H
                  obtain ⟨t258, A200, H⟩ := H
                  replace H : ((timesyncref19_get.f kj5 l0 32 8).bind fun t259 => ((timesyncref19_get.f kj5 l0 40 8).bind fun t260 => ((some (([] : List Int) : List Int)).bind fun y261 => (if 48 ≤ (l0.length : Int) then (if y261.length + (l0.drop 48).length < 140737488355328 then (some (wrap64 (Int.tdiv (wrap64 (rd l0 0)) 64), (Int.tmod (wrap64 (Int.tdiv (wrap64 (rd l0 0)) 8)) 8), Int.tmod (wrap64 (rd l0 0)) 8, wrap64 (rd l0 1), t250, t252, (t254) % 4294967296, (t255) % 4294967296, (t256) % 4294967296, t257, t258, t259, t260, (y261 ++ (l0.drop 48)), 0)) else (none)) else (none))))) = some (r1, r2, r3, r4, r5, r6, r7, r8, r9, r10, r11, r12, r13, r14, r15) := H
                  have A20 := Aside0.mk A200
                  clear A200
                  replace H := Option.bind_eq_some_iff.mp H
                  obtain ⟨t259, A210, H⟩ := H
                  replace H : ((timesyncref19_get.f kj5 l0 40 8).bind fun t260 => ((some (([] : List Int) : List Int)).bind fun y261 => (if 48 ≤ (l0.length : Int) then (if y261.length + (l0.drop 48).length < 140737488355328 then (some (wrap64 (Int.tdiv (wrap64 (rd l0 0)) 64), (Int.tmod (wrap64 (Int.tdiv (wrap64 (rd l0 0)) 8)) 8), Int.tmod (wrap64 (rd l0 0)) 8, wrap64 (rd l0 1), t250, t252, (t254) % 4294967296, (t255) % 4294967296, (t256) % 4294967296, t257, t258, t259, t260, (y261 ++ (l0.drop 48)), 0)) else (none)) else (none)))) = some (r1, r2, r3, r4, r5, r6, r7, r8, r9, r10, r11, r12, r13, r14, r15) := H
                  have A21 := Aside0.mk A210
                  clear A210
                  replace H := Option.bind_eq_some_iff.mp H
                  obtain ⟨t260, A220, H⟩ := H
                  replace H : ((some (([] : List Int) : List Int)).bind fun y261 => (if 48 ≤ (l0.length : Int) then (if y261.length + (l0.drop 48).length < 140737488355328 then (some (wrap64 (Int.tdiv (wrap64 (rd l0 0)) 64), (Int.tmod (wrap64 (Int.tdiv (wrap64 (rd l0 0)) 8)) 8), Int.tmod (wrap64 (rd l0 0)) 8, wrap64 (rd l0 1), t250, t252, (t254) % 4294967296, (t255) % 4294967296, (t256) % 4294967296, t257, t258, t259, t260, (y261 ++ (l0.drop 48)), 0)) else (none)) else (none))) = some (r1, r2, r3, r4, r5, r6, r7, r8, r9, r10, r11, r12, r13, r14, r15) := H
                  have A22 := Aside0.mk A220
                  clear A220
                  obtain ⟨y261, hy261⟩ : ∃ y_ : List Int, y_ = (([] : List Int)) := ⟨_, rfl⟩
                  replace H : (if 48 ≤ (l0.length : Int) then (if y261.length + (l0.drop 48).length < 140737488355328 then (some (wrap64 (Int.tdiv (wrap64 (rd l0 0)) 64), (Int.tmod (wrap64 (Int.tdiv (wrap64 (rd l0 0)) 8)) 8), Int.tmod (wrap64 (rd l0 0)) 8, wrap64 (rd l0 1), t250, t252, (t254) % 4294967296, (t255) % 4294967296, (t256) % 4294967296, t257, t258, t259, t260, (y261 ++ (l0.drop 48)), 0)) else (none)) else (none)) = some (r1, r2, r3, r4, r5, r6, r7, r8, r9, r10, r11, r12, r13, r14, r15) := by first | (rw [hy261]; with_reducible exact H) | (have H2_ := (Option.bind_some _ _).symm.trans H; rw [hy261]; with_reducible exact H2_) | (have H2_ := (Option.bind_some _ _).symm.trans H; with_reducible exact H2_) | with_reducible exact H | (rw [hy261]; exact H) | exact H
                  have Ny261 := Aside0.mk hy261
                  clear hy261
                  by_cases c23 : 48 ≤ (l0.length : Int)
                  · rw [if_pos c23] at H
                    have c23b0 := eq_true c23
                    have c23b1 : decide (48 ≤ (l0.length : Int)) = true := decide_eq_true c23
                    clear c23
                    by_cases c24 : y261.length + (l0.drop 48).length < 140737488355328
                    · rw [if_pos c24] at H
                      have LMc24 := Aside0.mk c24
                      clear c24
                      obtain ⟨y265, hy265⟩ : ∃ y_ : List Int, y_ = (y261 ++ (l0.drop 48)) := ⟨_, rfl⟩
                      replace H : (some (wrap64 (Int.tdiv (wrap64 (rd l0 0)) 64), (Int.tmod (wrap64 (Int.tdiv (wrap64 (rd l0 0)) 8)) 8), Int.tmod (wrap64 (rd l0 0)) 8, wrap64 (rd l0 1), t250, t252, (t254) % 4294967296, (t255) % 4294967296, (t256) % 4294967296, t257, t258, t259, t260, y265, 0)) = some (r1, r2, r3, r4, r5, r6, r7, r8, r9, r10, r11, r12, r13, r14, r15) := by first | (rw [hy265]; with_reducible exact H) | (have H2_ := (Option.bind_some _ _).symm.trans H; rw [hy265]; with_reducible exact H2_) | (have H2_ := (Option.bind_some _ _).symm.trans H; with_reducible exact H2_) | with_reducible exact H | (rw [hy265]; exact H) | exact H
                      have Ny265 := Aside0.mk hy265
                      clear hy265
                      simp only [Option.some.injEq, Prod.mk.injEq] at H
                      obtain ⟨rfl, rfl, rfl, rfl, rfl, rfl, rfl, rfl, rfl, rfl, rfl, rfl, rfl, rfl, rfl⟩ := H
                      try go_wp2
                      have n0_ := Aside0.mk (blk_drew BK246.out)
                      have n1_ := Aside0.mk (below_drew1 HB.out)
                      clear BK246
                      clear HB
                      have BK246 := n0_
                      have HB := n1_
                      clear n0_ n1_
                      have p248 : 0 ≤ (1 : Int) := (by omega)
                      have q248 : 1 < (l0.length : Int) := of_decide_eq_true (by first | (with_reducible assumption) | assumption)
                      obtain ⟨ad248, e248, hx248_0⟩ := Kd.at_int HR0.out 1 p248 q248
                      have hw248_0 := hx248_0
                      (try rw [show ((1 : Int)).toNat = 1 from rfl] at hw248_0)
                      (try rw [show 1 * 1 = 1 from rfl] at hw248_0)
                      (try simp only [Nat.reduceMul, Nat.reduceEqDiff, Go.Addr.add, ↓reduceIte] at hw248_0)
                      obtain rfl : ad247 = ad248 := (by injection e248)
                      (try simp only [show (1 : Int).toNat = 1 from rfl, Nat.reduceMul, Nat.reduceEqDiff, Go.Addr.add, ↓reduceIte] at hx248_0)
                      have qi248 : (1 < l0.length) = True := eq_true (by omega)
                      (try rw [show ((1 : Int)).toNat = 1 from rfl] at hx248_0)
                      replace hx248_0 := (HB.out.cell (World.block_lt_of_cell? w _ hx248_0)).trans hx248_0
                      replace p248 := eq_true p248
                      replace q248 := eq_true q248
                      have p249 : 0 ≤ (2 : Int) := (by omega)
                      have q249 : 2 < (l0.length : Int) := of_decide_eq_true (by first | (with_reducible assumption) | assumption)
                      obtain ⟨ad249, e249, hx249_0⟩ := Kd.at_int HR0.out 2 p249 q249
                      have hw249_0 := hx249_0
                      (try rw [show ((2 : Int)).toNat = 2 from rfl] at hw249_0)
                      (try rw [show 2 * 1 = 2 from rfl] at hw249_0)
                      (try simp only [Nat.reduceMul, Nat.reduceEqDiff, Go.Addr.add, ↓reduceIte] at hw249_0)
                      obtain rfl : ad247 = ad249 := (by injection e249)
                      (try simp only [show (2 : Int).toNat = 2 from rfl, Nat.reduceMul, Nat.reduceEqDiff, Go.Addr.add, ↓reduceIte] at hx249_0)
                      have qi249 : (2 < l0.length) = True := eq_true (by omega)
                      (try rw [show ((2 : Int)).toNat = 2 from rfl] at hx249_0)
                      replace hx249_0 := (HB.out.cell (World.block_lt_of_cell? w _ hx249_0)).trans hx249_0
                      replace p249 := eq_true p249
                      replace q249 := eq_true q249
                      have p251 : 0 ≤ (3 : Int) := (by omega)
                      have q251 : 3 < (l0.length : Int) := of_decide_eq_true (by first | (with_reducible assumption) | assumption)
                      obtain ⟨ad251, e251, hx251_0⟩ := Kd.at_int HR0.out 3 p251 q251
                      have hw251_0 := hx251_0
                      (try rw [show ((3 : Int)).toNat = 3 from rfl] at hw251_0)
                      (try rw [show 3 * 1 = 3 from rfl] at hw251_0)
                      (try simp only [Nat.reduceMul, Nat.reduceEqDiff, Go.Addr.add, ↓reduceIte] at hw251_0)
                      obtain rfl : ad247 = ad251 := (by injection e251)
                      (try simp only [show (3 : Int).toNat = 3 from rfl, Nat.reduceMul, Nat.reduceEqDiff, Go.Addr.add, ↓reduceIte] at hx251_0)
                      have qi251 : (3 < l0.length) = True := eq_true (by omega)
                      (try rw [show ((3 : Int)).toNat = 3 from rfl] at hx251_0)
                      replace hx251_0 := (HB.out.cell (World.block_lt_of_cell? w _ hx251_0)).trans hx251_0
                      replace p251 := eq_true p251
                      replace q251 := eq_true q251
                      refine start_ (n := 20) (S := fun w' => w'.cell? ⟨ad247.block, ad247.off + 1, none⟩ = some (.int .u8 (rd l0 1)) ∧ w'.cell? ⟨ad247.block, ad247.off + 2, none⟩ = some (.int .u8 (rd l0 2)) ∧ w'.cell? ⟨ad247.block, ad247.off + 3, none⟩ = some (.int .u8 (rd l0 3))) (ds := []) #[false, false, false, false, false, false, false, false, false, false, false, false, false, false, false, false, false, false, false, false] (by kernel_rfl) rfl rfl ⟨((HB.out.cell (World.block_lt_of_cell? w _ hw248_0)).trans hw248_0), ((HB.out.cell (World.block_lt_of_cell? w _ hw249_0)).trans hw249_0), ((HB.out.cell (World.block_lt_of_cell? w _ hw251_0)).trans hw251_0)⟩ (fun hHeld => ?_); refine with_tabW timesyncref19_Decode.tab7 timesyncref19_Decode.bits7 (fun HT_ HW_ => ?_)
                      generalize wc.drew = w25 at BK246 HB hx248_0 hx249_0 hx251_0 hHeld ⊢
                      refine pure_ (i := 0) (N := some 26) (v := ?_) (a' := ?_) #[true, false, false, false, false, false, false, false, false, false, false, false, false, false, false, false, false, false, false, false] rfl rfl (any_of HT_.out (by kernel_rfl)) (fun _ _ _ h => h) (Or.inl ⟨by rfl, ?_⟩) ?_ ?_
                      rotate_left
                      · intro w'
                        go_simp
                        with_reducible rfl
                      rotate_left
                      · simp only [Act.put, List.setIfInBounds_toArray, List.set_cons_zero, List.set_cons_succ, i64_w, i32_w]
                        rfl
                      refine pure_ (i := 1) (N := some 27) (v := ?_) (a' := ?_) #[true, true, false, false, false, false, false, false, false, false, false, false, false, false, false, false, false, false, false, false] rfl rfl (any_of HT_.out (by kernel_rfl)) (fun _ _ _ h => h) (Or.inl ⟨by rfl, ?_⟩) ?_ ?_
                      rotate_left
                      · intro w'
                        go_simp
                        with_reducible rfl
                      rotate_left
                      · simp only [Act.put, List.setIfInBounds_toArray, List.set_cons_zero, List.set_cons_succ, i64_w, i32_w]
                        rfl
                      refine pure_ (i := 2) (N := some 28) (v := ?_) (a' := ?_) #[true, true, true, false, false, false, false, false, false, false, false, false, false, false, false, false, false, false, false, false] rfl rfl (any_of HT_.out (by kernel_rfl)) (fun _ _ _ h => h) (Or.inl ⟨by rfl, ?_⟩) ?_ ?_
                      rotate_left
                      · intro w'
                        go_simp
                        with_reducible rfl
                      rotate_left
                      · simp only [Act.put, List.setIfInBounds_toArray, List.set_cons_zero, List.set_cons_succ, i64_w, i32_w]
                        rfl
                      refine pure_ (i := 3) (N := some 29) (v := ?_) (a' := ?_) #[true, true, true, true, false, false, false, false, false, false, false, false, false, false, false, false, false, false, false, false] rfl rfl (any_of HT_.out (by kernel_rfl)) (fun _ _ _ h => h) (Or.inl ⟨by rfl, ?_⟩) ?_ ?_
                      rotate_left
                      · intro w'
                        go_simp
                        with_reducible rfl
                      rotate_left
                      · simp only [Act.put, List.setIfInBounds_toArray, List.set_cons_zero, List.set_cons_succ, i64_w, i32_w]
                        rfl
                      refine pure_ (i := 4) (N := some 30) (v := ?_) (a' := ?_) #[true, true, true, true, true, false, false, false, false, false, false, false, false, false, false, false, false, false, false, false] rfl rfl (any_of HT_.out (by kernel_rfl)) (fun _ _ _ h => h) (Or.inl ⟨by rfl, ?_⟩) ?_ ?_
                      rotate_left
                      · intro w'
                        go_simp
                        with_reducible rfl
                      rotate_left
                      · simp only [Act.put, List.setIfInBounds_toArray, List.set_cons_zero, List.set_cons_succ, i64_w, i32_w]
                        rfl
                      refine pure_ (i := 5) (N := some 31) (v := ?_) (a' := ?_) #[true, true, true, true, true, true, false, false, false, false, false, false, false, false, false, false, false, false, false, false] rfl rfl (any_of HT_.out (by kernel_rfl)) (fun _ _ _ h => h) (Or.inl ⟨by rfl, ?_⟩) ?_ ?_
                      rotate_left
                      · intro w'
                        go_simp
                        with_reducible rfl
                      rotate_left
                      · simp only [Act.put, List.setIfInBounds_toArray, List.set_cons_zero, List.set_cons_succ, i64_w, i32_w]
                        rfl
                      refine pure_ (i := 6) (N := some 32) (v := ?_) (a' := ?_) #[true, true, true, true, true, true, true, false, false, false, false, false, false, false, false, false, false, false, false, false] rfl rfl (any_of HT_.out (by kernel_rfl)) (fun _ _ _ h => h) (Or.inl ⟨by rfl, ?_⟩) ?_ ?_
                      rotate_left
                      · intro w'
                        go_simp
                        with_reducible rfl
                      rotate_left
                      · simp only [Act.put, List.setIfInBounds_toArray, List.set_cons_zero, List.set_cons_succ, i64_w, i32_w]
                        rfl
                      refine pure_ (i := 9) (N := some 35) (v := ?_) (a' := ?_) #[true, true, true, true, true, true, true, false, false, true, false, false, false, false, false, false, false, false, false, false] rfl rfl (any_of HT_.out (by kernel_rfl)) (fun _ _ _ h => h) (Or.inl ⟨by rfl, ?_⟩) ?_ ?_
                      rotate_left
                      · intro w'
                        go_simp
                        with_reducible rfl
                      rotate_left
                      · simp only [Act.put, List.setIfInBounds_toArray, List.set_cons_zero, List.set_cons_succ, i64_w, i32_w]
                        rfl
                      refine pure_ (i := 10) (N := some 36) (v := ?_) (a' := ?_) #[true, true, true, true, true, true, true, false, false, true, true, false, false, false, false, false, false, false, false, false] rfl rfl (any_of HT_.out (by kernel_rfl)) (fun _ _ _ h => h) (Or.inl ⟨by rfl, ?_⟩) ?_ ?_
                      rotate_left
                      · intro w'
                        go_simp
                        with_reducible rfl
                      rotate_left
                      · simp only [Act.put, List.setIfInBounds_toArray, List.set_cons_zero, List.set_cons_succ, i64_w, i32_w]
                        rfl
                      refine pure_ (i := 13) (N := some 39) (v := ?_) (a' := ?_) #[true, true, true, true, true, true, true, false, false, true, true, false, false, true, false, false, false, false, false, false] rfl rfl (any_of HT_.out (by kernel_rfl)) (fun _ _ _ h => h) (Or.inl ⟨by rfl, ?_⟩) ?_ ?_
                      rotate_left
                      · intro w'
                        go_simp
                        with_reducible rfl
                      rotate_left
                      · simp only [Act.put, List.setIfInBounds_toArray, List.set_cons_zero, List.set_cons_succ, i64_w, i32_w]
                        rfl
                      refine pure_ (i := 14) (N := some 40) (v := ?_) (a' := ?_) #[true, true, true, true, true, true, true, false, false, true, true, false, false, true, true, false, false, false, false, false] rfl rfl (any_of HT_.out (by kernel_rfl)) (fun _ _ _ h => h) (Or.inl ⟨by rfl, ?_⟩) ?_ ?_
                      rotate_left
                      · intro w'
                        go_simp
                        with_reducible rfl
                      rotate_left
                      · simp only [Act.put, List.setIfInBounds_toArray, List.set_cons_zero, List.set_cons_succ, i64_w, i32_w]
                        rfl
                      refine take_ (i := 7) (N := some 33) (v := ?_) (a' := ?_) #[true, true, true, true, true, true, true, true, false, true, true, false, false, true, true, false, false, false, false, false] rfl rfl (take_ofW HT_.out HW_.out (by kernel_rfl)) (fun _ _ _ h => h) (Or.inl ⟨by rfl, ?_⟩) hHeld ?_ ?_
                      rotate_left
                      · rintro w' ⟨s0, s1, s2⟩
                        go_simp
                        with_reducible rfl
                      rotate_left
                      · simp only [Act.put, List.setIfInBounds_toArray, List.set_cons_zero, List.set_cons_succ, i64_w, i32_w]
                        rfl
                      refine pure_ (i := 8) (N := some 34) (v := ?_) (a' := ?_) #[true, true, true, true, true, true, true, true, true, true, true, false, false, true, true, false, false, false, false, false] rfl rfl (any_of HT_.out (by kernel_rfl)) (fun _ _ _ h => h) (Or.inl ⟨by rfl, ?_⟩) ?_ ?_
                      rotate_left
                      · intro w'
                        go_simp
                        with_reducible rfl
                      rotate_left
                      · simp only [Act.put, List.setIfInBounds_toArray, List.set_cons_zero, List.set_cons_succ, i64_w, i32_w]
                        rfl
                      refine take_ (i := 11) (N := some 37) (v := ?_) (a' := ?_) #[true, true, true, true, true, true, true, true, true, true, true, true, false, true, true, false, false, false, false, false] rfl rfl (take_ofW HT_.out HW_.out (by kernel_rfl)) (fun _ _ _ h => h) (Or.inl ⟨by rfl, ?_⟩) hHeld ?_ ?_
                      rotate_left
                      · rintro w' ⟨s0, s1, s2⟩
                        go_simp
                        with_reducible rfl
                      rotate_left
                      · simp only [Act.put, List.setIfInBounds_toArray, List.set_cons_zero, List.set_cons_succ, i64_w, i32_w]
                        rfl
                      refine take_ (i := 15) (N := some 41) (v := ?_) (a' := ?_) #[true, true, true, true, true, true, true, true, true, true, true, true, false, true, true, true, false, false, false, false] rfl rfl (take_ofW HT_.out HW_.out (by kernel_rfl)) (fun _ _ _ h => h) (Or.inl ⟨by rfl, ?_⟩) hHeld ?_ ?_
                      rotate_left
                      · rintro w' ⟨s0, s1, s2⟩
                        go_simp
                        with_reducible rfl
                      rotate_left
                      · simp only [Act.put, List.setIfInBounds_toArray, List.set_cons_zero, List.set_cons_succ, i64_w, i32_w]
                        rfl
                      refine join_ (σ := Nat) 1 #[true, true, true, true, true, true, true, true, true, true, true, true, true, true, true, true, true, true, true, false] (fun s_ => [(38, .int .i64 t250), (42, .int .i64 t252), (7, .pointer (some ⟨s_, 0, none⟩)), (43, .agg #[.int .i64 (wrap64 (Int.tdiv (wrap64 (rd l0 0)) 64)), .int .i64 (Int.tmod (wrap64 (Int.tdiv (wrap64 (rd l0 0)) 8)) 8), .int .i64 (Int.tmod (wrap64 (rd l0 0)) 8), .int .i64 (wrap64 (rd l0 1)), .int .i64 t250, .int .i64 t252, .int .u32 0, .int .u32 0, .int .u32 0, .int .u64 0, .int .u64 0, .int .u64 0, .int .u64 0])]) (fun s_ w' => (w'.cell? ⟨ad247.block, ad247.off + 1, none⟩ = some (.int .u8 (rd l0 1)) ∧ w'.cell? ⟨ad247.block, ad247.off + 2, none⟩ = some (.int .u8 (rd l0 2)) ∧ w'.cell? ⟨ad247.block, ad247.off + 3, none⟩ = some (.int .u8 (rd l0 3))) ∧ (w'.heap[gb246]? = some (.cells #[.int .i64 0, .int .i64 0, .int .i64 0, .int .i64 0, .int .i64 0, .int .i64 0, .int .u32 0, .int .u32 0, .int .u32 0, .int .u64 0, .int .u64 0, .int .u64 0, .int .u64 0] 25 (0, 0))) ∧ (w'.heap[s_]? = some (.cells #[.int .i64 0, .int .i64 0, .int .i64 0, .int .i64 0, .int .i64 0, .int .i64 0, .int .u32 0, .int .u32 0, .int .u32 0, .int .u64 0, .int .u64 0, .int .u64 0, .int .u64 0] 25 (0, 0))) ∧ (w.heap.size ≤ s_) ∧ (w.heap.size ≤ s_) ∧ (gb246 ≠ s_) ∧ (s_ ≠ gb246) ∧ (Below w.heap.size w w')) ?_ ?_
                      rotate_left
                      · intro hCont
                        refine two_ (i := 12) (j := 18) (Ni := some 38) (Nj := some 7) #[true, true, true, true, true, true, true, true, true, true, true, true, true, true, true, true, false, false, false, false] #[true, true, true, true, true, true, true, true, true, true, true, true, false, true, true, true, false, false, true, false] rfl rfl rfl rfl (two_of HT_.out (by kernel_rfl)) (by decide) (by decide) (fun K hK => ?_) (fun K hK => ?_)
                        · skip
                          refine goes_ Try.func29 (by kernel_rfl) rfl #[.int .u8 (rd l0 2)] (by rfl) rfl rfl (by (try simp only [List.map_toArray, List.map_cons, List.map_nil]); first | done | rfl | (simp only [List.length_drop, List.length_take]; rfl)) ?_
                          with_reducible refine (timesyncref19_signed.calls (rd l0 2) t250 _ A13.out).mono ?_
                          rintro e w' ⟨rfl, ⟨nd, rfl⟩⟩
                          refine ⟨_, rfl, ?_⟩
                          refine hK.out _ _ ⟨((HB.out.cell (World.block_lt_of_cell? w _ hw248_0)).trans hw248_0), ((HB.out.cell (World.block_lt_of_cell? w _ hw249_0)).trans hw249_0), ((HB.out.cell (World.block_lt_of_cell? w _ hw251_0)).trans hw251_0)⟩ (fun hHeld => ?_)
                          clear hK K
                          refine norm_ (a' := ?_) ?_ ?_
                          rotate_left
                          · show Act.put _ (some 38) _ = _
                            simp only [Act.put, List.setIfInBounds_toArray, List.set_cons_zero, List.set_cons_succ, i64_w, i32_w]
                            rfl
                          refine two_ (i := 16) (j := 18) (Ni := some 42) (Nj := some 7) #[true, true, true, true, true, true, true, true, true, true, true, true, true, true, true, true, true, false, false, false] #[true, true, true, true, true, true, true, true, true, true, true, true, true, true, true, true, false, false, true, false] rfl rfl rfl rfl (two_of HT_.out (by kernel_rfl)) (by decide) (by decide) (fun K hK => ?_) (fun K hK => ?_)
                          · skip
                            refine goes_ Try.func29 (by kernel_rfl) rfl #[.int .u8 (rd l0 3)] (by rfl) rfl rfl (by (try simp only [List.map_toArray, List.map_cons, List.map_nil]); first | done | rfl | (simp only [List.length_drop, List.length_take]; rfl)) ?_
                            with_reducible refine (timesyncref19_signed.calls (rd l0 3) t252 _ A15.out).mono ?_
                            rintro e w' ⟨rfl, ⟨nd, rfl⟩⟩
                            refine ⟨_, rfl, ?_⟩
                            refine hK.out _ _ ⟨((HB.out.cell (World.block_lt_of_cell? w _ hw248_0)).trans hw248_0), ((HB.out.cell (World.block_lt_of_cell? w _ hw249_0)).trans hw249_0), ((HB.out.cell (World.block_lt_of_cell? w _ hw251_0)).trans hw251_0)⟩ (fun hHeld => ?_)
                            clear hK K
                            refine norm_ (a' := ?_) ?_ ?_
                            rotate_left
                            · show Act.put _ (some 42) _ = _
                              simp only [Act.put, List.setIfInBounds_toArray, List.set_cons_zero, List.set_cons_succ, i64_w, i32_w]
                              rfl
                            refine pure_ (i := 17) (N := some 43) (v := ?_) (a' := ?_) #[true, true, true, true, true, true, true, true, true, true, true, true, true, true, true, true, true, true, false, false] rfl rfl (any_of HT_.out (by kernel_rfl)) (fun _ _ _ h => h) (Or.inl ⟨by rfl, ?_⟩) ?_ ?_
                            rotate_left
                            · intro w'
                              go_simp
                              with_reducible rfl
                            rotate_left
                            · simp only [Act.put, List.setIfInBounds_toArray, List.set_cons_zero, List.set_cons_succ, i64_w, i32_w]
                              rfl
                            refine one_ (i := 18) (N := some 7) #[true, true, true, true, true, true, true, true, true, true, true, true, true, true, true, true, true, true, true, false] rfl rfl (one_of HT_.out (by kernel_rfl)) (by decide) (fun K hK => ?_)
                            refine box_step ?hg (N := 7) ?hd (cs := #[.int .i64 0, .int .i64 0, .int .i64 0, .int .i64 0, .int .i64 0, .int .i64 0, .int .u32 0, .int .u32 0, .int .u32 0, .int .u64 0, .int .u64 0, .int .u64 0, .int .u64 0]) (t := 25) ?hr ?_; (case hd => rfl); (case hg => rfl); (case hr => first | (go_simp; done) | (go_simp; rfl))
                            intro gb253 hg w26 hbox hb
                            have n0_ := Aside0.mk (blk_below (g := gb246) (o := .cells #[.int .i64 0, .int .i64 0, .int .i64 0, .int .i64 0, .int .i64 0, .int .i64 0, .int .u32 0, .int .u32 0, .int .u32 0, .int .u64 0, .int .u64 0, .int .u64 0, .int .u64 0] 25 (0, 0)) (by (with_reducible repeat (first | refine blk_drewN ?_ _ | refine blk_drew ?_ | refine blk_alloc ?_ _)); exact BK246.out) hb)
                            have n1_ := Aside0.mk (below_step (by repeat (first | (with_reducible first | exact HB.out | apply below_alloc | apply pw_below_drewN | apply below_drew1 | refine below_set ?_ GE246.out) | exact HB.out)) hb)
                            have n2_ := Aside0.mk (hbox)
                            have n3_ := Aside0.mk ((by rw [hg]; exact (below_size (by repeat (first | (with_reducible first | exact HB.out | apply below_alloc | apply pw_below_drewN | apply below_drew1 | refine below_set ?_ GE246.out) | exact HB.out))) : w.heap.size ≤ gb253))
                            have n4_ := Aside0.mk ((by rw [hg]; exact (below_size (by repeat (first | (with_reducible first | exact HB.out | apply below_alloc | apply pw_below_drewN | apply below_drew1 | refine below_set ?_ GE246.out) | exact HB.out))) : w.heap.size ≤ gb253))
                            have n5_ := Aside0.mk ((by rw [hg]; exact Nat.ne_of_lt (blk_lt (g := gb246) (o := .cells #[.int .i64 0, .int .i64 0, .int .i64 0, .int .i64 0, .int .i64 0, .int .i64 0, .int .u32 0, .int .u32 0, .int .u32 0, .int .u64 0, .int .u64 0, .int .u64 0, .int .u64 0] 25 (0, 0)) (by (with_reducible repeat (first | refine blk_drewN ?_ _ | refine blk_drew ?_ | refine blk_alloc ?_ _)); exact BK246.out)) : gb246 ≠ gb253))
                            have n6_ := Aside0.mk ((by rw [hg]; exact Nat.ne_of_gt (blk_lt (g := gb246) (o := .cells #[.int .i64 0, .int .i64 0, .int .i64 0, .int .i64 0, .int .i64 0, .int .i64 0, .int .u32 0, .int .u32 0, .int .u32 0, .int .u64 0, .int .u64 0, .int .u64 0, .int .u64 0] 25 (0, 0)) (by (with_reducible repeat (first | refine blk_drewN ?_ _ | refine blk_drew ?_ | refine blk_alloc ?_ _)); exact BK246.out)) : gb253 ≠ gb246))
                            clear BK246
                            clear HB
                            have BK246 := n0_
                            have HB := n1_
                            have BK253 := n2_
                            have GW253 := n3_
                            have GE253 := n4_
                            have NB246_253 := n5_
                            have NB253_246 := n6_
                            clear n0_ n1_ n2_ n3_ n4_ n5_ n6_
                            clear hb hbox hg
                            refine hK.out _ _ ⟨((HB.out.cell (World.block_lt_of_cell? w _ hw248_0)).trans hw248_0), ((HB.out.cell (World.block_lt_of_cell? w _ hw249_0)).trans hw249_0), ((HB.out.cell (World.block_lt_of_cell? w _ hw251_0)).trans hw251_0)⟩ (fun hHeld => ?_)
                            clear hK K
                            refine norm_ (a' := ?_) ?_ ?_
                            rotate_left
                            · show Act.put _ (some 7) _ = _
                              simp only [Act.put, List.setIfInBounds_toArray, List.set_cons_zero, List.set_cons_succ, i64_w, i32_w]
                              rfl
                            exact norm_ (by simp only [putAll, Act.put, List.setIfInBounds_toArray, List.set_cons_zero, List.set_cons_succ]) (hCont (gb253) _ ⟨hHeld, (by (with_reducible repeat (first | refine blk_drewN ?_ _ | refine blk_drew ?_ | refine blk_alloc ?_ _)); exact BK246.out), (by (with_reducible repeat (first | refine blk_drewN ?_ _ | refine blk_drew ?_ | refine blk_alloc ?_ _)); exact BK253.out), GW253.out, GE253.out, NB246_253.out, NB253_246.out, (by repeat (first | (with_reducible first | exact HB.out | apply below_alloc | apply pw_below_drewN | apply below_drew1 | refine below_set ?_ GE246.out | refine below_set ?_ GE253.out) | exact HB.out))⟩)
                          · skip
                            refine box_step ?hg (N := 7) ?hd (cs := #[.int .i64 0, .int .i64 0, .int .i64 0, .int .i64 0, .int .i64 0, .int .i64 0, .int .u32 0, .int .u32 0, .int .u32 0, .int .u64 0, .int .u64 0, .int .u64 0, .int .u64 0]) (t := 25) ?hr ?_; (case hd => rfl); (case hg => rfl); (case hr => first | (go_simp; done) | (go_simp; rfl))
                            intro gb253 hg w26 hbox hb
                            have n0_ := Aside0.mk (blk_below (g := gb246) (o := .cells #[.int .i64 0, .int .i64 0, .int .i64 0, .int .i64 0, .int .i64 0, .int .i64 0, .int .u32 0, .int .u32 0, .int .u32 0, .int .u64 0, .int .u64 0, .int .u64 0, .int .u64 0] 25 (0, 0)) (by (with_reducible repeat (first | refine blk_drewN ?_ _ | refine blk_drew ?_ | refine blk_alloc ?_ _)); exact BK246.out) hb)
                            have n1_ := Aside0.mk (below_step (by repeat (first | (with_reducible first | exact HB.out | apply below_alloc | apply pw_below_drewN | apply below_drew1 | refine below_set ?_ GE246.out) | exact HB.out)) hb)
                            have n2_ := Aside0.mk (hbox)
                            have n3_ := Aside0.mk ((by rw [hg]; exact (below_size (by repeat (first | (with_reducible first | exact HB.out | apply below_alloc | apply pw_below_drewN | apply below_drew1 | refine below_set ?_ GE246.out) | exact HB.out))) : w.heap.size ≤ gb253))
                            have n4_ := Aside0.mk ((by rw [hg]; exact (below_size (by repeat (first | (with_reducible first | exact HB.out | apply below_alloc | apply pw_below_drewN | apply below_drew1 | refine below_set ?_ GE246.out) | exact HB.out))) : w.heap.size ≤ gb253))
                            have n5_ := Aside0.mk ((by rw [hg]; exact Nat.ne_of_lt (blk_lt (g := gb246) (o := .cells #[.int .i64 0, .int .i64 0, .int .i64 0, .int .i64 0, .int .i64 0, .int .i64 0, .int .u32 0, .int .u32 0, .int .u32 0, .int .u64 0, .int .u64 0, .int .u64 0, .int .u64 0] 25 (0, 0)) (by (with_reducible repeat (first | refine blk_drewN ?_ _ | refine blk_drew ?_ | refine blk_alloc ?_ _)); exact BK246.out)) : gb246 ≠ gb253))
                            have n6_ := Aside0.mk ((by rw [hg]; exact Nat.ne_of_gt (blk_lt (g := gb246) (o := .cells #[.int .i64 0, .int .i64 0, .int .i64 0, .int .i64 0, .int .i64 0, .int .i64 0, .int .u32 0, .int .u32 0, .int .u32 0, .int .u64 0, .int .u64 0, .int .u64 0, .int .u64 0] 25 (0, 0)) (by (with_reducible repeat (first | refine blk_drewN ?_ _ | refine blk_drew ?_ | refine blk_alloc ?_ _)); exact BK246.out)) : gb253 ≠ gb246))
                            clear BK246
                            clear HB
                            have BK246 := n0_
                            have HB := n1_
                            have BK253 := n2_
                            have GW253 := n3_
                            have GE253 := n4_
                            have NB246_253 := n5_
                            have NB253_246 := n6_
                            clear n0_ n1_ n2_ n3_ n4_ n5_ n6_
                            clear hb hbox hg
                            refine hK.out _ _ ⟨((HB.out.cell (World.block_lt_of_cell? w _ hw248_0)).trans hw248_0), ((HB.out.cell (World.block_lt_of_cell? w _ hw249_0)).trans hw249_0), ((HB.out.cell (World.block_lt_of_cell? w _ hw251_0)).trans hw251_0)⟩ (fun hHeld => ?_)
                            clear hK K
                            refine norm_ (a' := ?_) ?_ ?_
                            rotate_left
                            · show Act.put _ (some 7) _ = _
                              simp only [Act.put, List.setIfInBounds_toArray, List.set_cons_zero, List.set_cons_succ, i64_w, i32_w]
                              rfl
                            refine one_ (i := 16) (N := some 42) #[true, true, true, true, true, true, true, true, true, true, true, true, true, true, true, true, true, false, true, false] rfl rfl (one_of HT_.out (by kernel_rfl)) (by decide) (fun K hK => ?_)
                            refine goes_ Try.func29 (by kernel_rfl) rfl #[.int .u8 (rd l0 3)] (by rfl) rfl rfl (by (try simp only [List.map_toArray, List.map_cons, List.map_nil]); first | done | rfl | (simp only [List.length_drop, List.length_take]; rfl)) ?_
                            with_reducible refine (timesyncref19_signed.calls (rd l0 3) t252 _ A15.out).mono ?_
                            rintro e w' ⟨rfl, ⟨nd, rfl⟩⟩
                            refine ⟨_, rfl, ?_⟩
                            refine hK.out _ _ ⟨((HB.out.cell (World.block_lt_of_cell? w _ hw248_0)).trans hw248_0), ((HB.out.cell (World.block_lt_of_cell? w _ hw249_0)).trans hw249_0), ((HB.out.cell (World.block_lt_of_cell? w _ hw251_0)).trans hw251_0)⟩ (fun hHeld => ?_)
                            clear hK K
                            refine norm_ (a' := ?_) ?_ ?_
                            rotate_left
                            · show Act.put _ (some 42) _ = _
                              simp only [Act.put, List.setIfInBounds_toArray, List.set_cons_zero, List.set_cons_succ, i64_w, i32_w]
                              rfl
                            refine pure_ (i := 17) (N := some 43) (v := ?_) (a' := ?_) #[true, true, true, true, true, true, true, true, true, true, true, true, true, true, true, true, true, true, true, false] rfl rfl (any_of HT_.out (by kernel_rfl)) (fun _ _ _ h => h) (Or.inl ⟨by rfl, ?_⟩) ?_ ?_
                            rotate_left
                            · intro w'
                              go_simp
                              with_reducible rfl
                            rotate_left
                            · simp only [Act.put, List.setIfInBounds_toArray, List.set_cons_zero, List.set_cons_succ, i64_w, i32_w]
                              rfl
                            exact norm_ (by simp only [putAll, Act.put, List.setIfInBounds_toArray, List.set_cons_zero, List.set_cons_succ]) (hCont (gb253) _ ⟨hHeld, (by (with_reducible repeat (first | refine blk_drewN ?_ _ | refine blk_drew ?_ | refine blk_alloc ?_ _)); exact BK246.out), (by (with_reducible repeat (first | refine blk_drewN ?_ _ | refine blk_drew ?_ | refine blk_alloc ?_ _)); exact BK253.out), GW253.out, GE253.out, NB246_253.out, NB253_246.out, (by repeat (first | (with_reducible first | exact HB.out | apply below_alloc | apply pw_below_drewN | apply below_drew1 | refine below_set ?_ GE246.out | refine below_set ?_ GE253.out) | exact HB.out))⟩)
                        · skip
                          refine box_step ?hg (N := 7) ?hd (cs := #[.int .i64 0, .int .i64 0, .int .i64 0, .int .i64 0, .int .i64 0, .int .i64 0, .int .u32 0, .int .u32 0, .int .u32 0, .int .u64 0, .int .u64 0, .int .u64 0, .int .u64 0]) (t := 25) ?hr ?_; (case hd => rfl); (case hg => rfl); (case hr => first | (go_simp; done) | (go_simp; rfl))
                          intro gb253 hg w26 hbox hb
                          have n0_ := Aside0.mk (blk_below (g := gb246) (o := .cells #[.int .i64 0, .int .i64 0, .int .i64 0, .int .i64 0, .int .i64 0, .int .i64 0, .int .u32 0, .int .u32 0, .int .u32 0, .int .u64 0, .int .u64 0, .int .u64 0, .int .u64 0] 25 (0, 0)) (by (with_reducible repeat (first | refine blk_drewN ?_ _ | refine blk_drew ?_ | refine blk_alloc ?_ _)); exact BK246.out) hb)
                          have n1_ := Aside0.mk (below_step (by repeat (first | (with_reducible first | exact HB.out | apply below_alloc | apply pw_below_drewN | apply below_drew1 | refine below_set ?_ GE246.out) | exact HB.out)) hb)
                          have n2_ := Aside0.mk (hbox)
                          have n3_ := Aside0.mk ((by rw [hg]; exact (below_size (by repeat (first | (with_reducible first | exact HB.out | apply below_alloc | apply pw_below_drewN | apply below_drew1 | refine below_set ?_ GE246.out) | exact HB.out))) : w.heap.size ≤ gb253))
                          have n4_ := Aside0.mk ((by rw [hg]; exact (below_size (by repeat (first | (with_reducible first | exact HB.out | apply below_alloc | apply pw_below_drewN | apply below_drew1 | refine below_set ?_ GE246.out) | exact HB.out))) : w.heap.size ≤ gb253))
                          have n5_ := Aside0.mk ((by rw [hg]; exact Nat.ne_of_lt (blk_lt (g := gb246) (o := .cells #[.int .i64 0, .int .i64 0, .int .i64 0, .int .i64 0, .int .i64 0, .int .i64 0, .int .u32 0, .int .u32 0, .int .u32 0, .int .u64 0, .int .u64 0, .int .u64 0, .int .u64 0] 25 (0, 0)) (by (with_reducible repeat (first | refine blk_drewN ?_ _ | refine blk_drew ?_ | refine blk_alloc ?_ _)); exact BK246.out)) : gb246 ≠ gb253))
                          have n6_ := Aside0.mk ((by rw [hg]; exact Nat.ne_of_gt (blk_lt (g := gb246) (o := .cells #[.int .i64 0, .int .i64 0, .int .i64 0, .int .i64 0, .int .i64 0, .int .i64 0, .int .u32 0, .int .u32 0, .int .u32 0, .int .u64 0, .int .u64 0, .int .u64 0, .int .u64 0] 25 (0, 0)) (by (with_reducible repeat (first | refine blk_drewN ?_ _ | refine blk_drew ?_ | refine blk_alloc ?_ _)); exact BK246.out)) : gb253 ≠ gb246))
                          clear BK246
                          clear HB
                          have BK246 := n0_
                          have HB := n1_
                          have BK253 := n2_
                          have GW253 := n3_
                          have GE253 := n4_
                          have NB246_253 := n5_
                          have NB253_246 := n6_
                          clear n0_ n1_ n2_ n3_ n4_ n5_ n6_
                          clear hb hbox hg
                          refine hK.out _ _ ⟨((HB.out.cell (World.block_lt_of_cell? w _ hw248_0)).trans hw248_0), ((HB.out.cell (World.block_lt_of_cell? w _ hw249_0)).trans hw249_0), ((HB.out.cell (World.block_lt_of_cell? w _ hw251_0)).trans hw251_0)⟩ (fun hHeld => ?_)
                          clear hK K
                          refine norm_ (a' := ?_) ?_ ?_
                          rotate_left
                          · show Act.put _ (some 7) _ = _
                            simp only [Act.put, List.setIfInBounds_toArray, List.set_cons_zero, List.set_cons_succ, i64_w, i32_w]
                            rfl
                          refine one_ (i := 12) (N := some 38) #[true, true, true, true, true, true, true, true, true, true, true, true, true, true, true, true, false, false, true, false] rfl rfl (one_of HT_.out (by kernel_rfl)) (by decide) (fun K hK => ?_)
                          refine goes_ Try.func29 (by kernel_rfl) rfl #[.int .u8 (rd l0 2)] (by rfl) rfl rfl (by (try simp only [List.map_toArray, List.map_cons, List.map_nil]); first | done | rfl | (simp only [List.length_drop, List.length_take]; rfl)) ?_
                          with_reducible refine (timesyncref19_signed.calls (rd l0 2) t250 _ A13.out).mono ?_
                          rintro e w' ⟨rfl, ⟨nd, rfl⟩⟩
                          refine ⟨_, rfl, ?_⟩
                          refine hK.out _ _ ⟨((HB.out.cell (World.block_lt_of_cell? w _ hw248_0)).trans hw248_0), ((HB.out.cell (World.block_lt_of_cell? w _ hw249_0)).trans hw249_0), ((HB.out.cell (World.block_lt_of_cell? w _ hw251_0)).trans hw251_0)⟩ (fun hHeld => ?_)
                          clear hK K
                          refine norm_ (a' := ?_) ?_ ?_
                          rotate_left
                          · show Act.put _ (some 38) _ = _
                            simp only [Act.put, List.setIfInBounds_toArray, List.set_cons_zero, List.set_cons_succ, i64_w, i32_w]
                            rfl
                          refine one_ (i := 16) (N := some 42) #[true, true, true, true, true, true, true, true, true, true, true, true, true, true, true, true, true, false, true, false] rfl rfl (one_of HT_.out (by kernel_rfl)) (by decide) (fun K hK => ?_)
                          refine goes_ Try.func29 (by kernel_rfl) rfl #[.int .u8 (rd l0 3)] (by rfl) rfl rfl (by (try simp only [List.map_toArray, List.map_cons, List.map_nil]); first | done | rfl | (simp only [List.length_drop, List.length_take]; rfl)) ?_
                          with_reducible refine (timesyncref19_signed.calls (rd l0 3) t252 _ A15.out).mono ?_
                          rintro e w' ⟨rfl, ⟨nd, rfl⟩⟩
                          refine ⟨_, rfl, ?_⟩
                          refine hK.out _ _ ⟨((HB.out.cell (World.block_lt_of_cell? w _ hw248_0)).trans hw248_0), ((HB.out.cell (World.block_lt_of_cell? w _ hw249_0)).trans hw249_0), ((HB.out.cell (World.block_lt_of_cell? w _ hw251_0)).trans hw251_0)⟩ (fun hHeld => ?_)
                          clear hK K
                          refine norm_ (a' := ?_) ?_ ?_
                          rotate_left
                          · show Act.put _ (some 42) _ = _
                            simp only [Act.put, List.setIfInBounds_toArray, List.set_cons_zero, List.set_cons_succ, i64_w, i32_w]
                            rfl
                          refine pure_ (i := 17) (N := some 43) (v := ?_) (a' := ?_) #[true, true, true, true, true, true, true, true, true, true, true, true, true, true, true, true, true, true, true, false] rfl rfl (any_of HT_.out (by kernel_rfl)) (fun _ _ _ h => h) (Or.inl ⟨by rfl, ?_⟩) ?_ ?_
                          rotate_left
                          · intro w'
                            go_simp
                            with_reducible rfl
                          rotate_left
                          · simp only [Act.put, List.setIfInBounds_toArray, List.set_cons_zero, List.set_cons_succ, i64_w, i32_w]
                            rfl
                          exact norm_ (by simp only [putAll, Act.put, List.setIfInBounds_toArray, List.set_cons_zero, List.set_cons_succ]) (hCont (gb253) _ ⟨hHeld, (by (with_reducible repeat (first | refine blk_drewN ?_ _ | refine blk_drew ?_ | refine blk_alloc ?_ _)); exact BK246.out), (by (with_reducible repeat (first | refine blk_drewN ?_ _ | refine blk_drew ?_ | refine blk_alloc ?_ _)); exact BK253.out), GW253.out, GE253.out, NB246_253.out, NB253_246.out, (by repeat (first | (with_reducible first | exact HB.out | apply below_alloc | apply pw_below_drewN | apply below_drew1 | refine below_set ?_ GE246.out | refine below_set ?_ GE253.out) | exact HB.out))⟩)
                      rintro gb253 w27 ⟨hS_, h0_, h1_, h2_, h3_, h4_, h5_, h6_⟩
                      have n0_ : Aside0 (w27.heap[gb246]? = some (.cells #[.int .i64 0, .int .i64 0, .int .i64 0, .int .i64 0, .int .i64 0, .int .i64 0, .int .u32 0, .int .u32 0, .int .u32 0, .int .u64 0, .int .u64 0, .int .u64 0, .int .u64 0] 25 (0, 0))) := ⟨h0_⟩
                      have n1_ : Aside0 (w27.heap[gb253]? = some (.cells #[.int .i64 0, .int .i64 0, .int .i64 0, .int .i64 0, .int .i64 0, .int .i64 0, .int .u32 0, .int .u32 0, .int .u32 0, .int .u64 0, .int .u64 0, .int .u64 0, .int .u64 0] 25 (0, 0))) := ⟨h1_⟩
                      have n2_ : Aside0 (w.heap.size ≤ gb253) := ⟨h2_⟩
                      have n3_ : Aside0 (w.heap.size ≤ gb253) := ⟨h3_⟩
                      have n4_ : Aside0 (gb246 ≠ gb253) := ⟨h4_⟩
                      have n5_ : Aside0 (gb253 ≠ gb246) := ⟨h5_⟩
                      have n6_ : Aside0 (Below w.heap.size w w27) := ⟨h6_⟩
                      clear BK246
                      clear HB
                      clear h0_ h1_ h2_ h3_ h4_ h5_ h6_
                      have BK246 := n0_
                      have BK253 := n1_
                      have GW253 := n2_
                      have GE253 := n3_
                      have NB246_253 := n4_
                      have NB253_246 := n5_
                      have HB := n6_
                      clear n0_ n1_ n2_ n3_ n4_ n5_ n6_
                      have hHeld : w27.cell? ⟨ad247.block, ad247.off + 1, none⟩ = some (.int .u8 (rd l0 1)) ∧ w27.cell? ⟨ad247.block, ad247.off + 2, none⟩ = some (.int .u8 (rd l0 2)) ∧ w27.cell? ⟨ad247.block, ad247.off + 3, none⟩ = some (.int .u8 (rd l0 3)) := hS_
                      refine norm_ (a' := ?_) ?_ ?_
                      rotate_left
                      · simp only [putAll, Act.put, List.setIfInBounds_toArray, List.set_cons_zero, List.set_cons_succ]
                        rfl
                      refine one_ (i := 19) (N := none) #[true, true, true, true, true, true, true, true, true, true, true, true, true, true, true, true, true, true, true, true] rfl rfl (one_of HT_.out (by kernel_rfl)) (by decide) (fun K hK => ?_)
                      have hs28 : w27.cell? ⟨gb253, 0, none⟩ = some (.int .i64 0) := (blk_cell BK253.out 0).trans rfl
                      have hfs28 := blk_frozen BK253.out 0
                      have hns28_0 := NB246_253.out
                      have hms28_0 := NB253_246.out
                      have hs29 : w27.cell? ⟨gb253, 1, none⟩ = some (.int .i64 0) := (blk_cell BK253.out 1).trans rfl
                      have hfs29 := blk_frozen BK253.out 1
                      have hns29_0 := NB246_253.out
                      have hms29_0 := NB253_246.out
                      have hs30 : w27.cell? ⟨gb253, 2, none⟩ = some (.int .i64 0) := (blk_cell BK253.out 2).trans rfl
                      have hfs30 := blk_frozen BK253.out 2
                      have hns30_0 := NB246_253.out
                      have hms30_0 := NB253_246.out
                      have hs31 : w27.cell? ⟨gb253, 3, none⟩ = some (.int .i64 0) := (blk_cell BK253.out 3).trans rfl
                      have hfs31 := blk_frozen BK253.out 3
                      have hns31_0 := NB246_253.out
                      have hms31_0 := NB253_246.out
                      have hs32 : w27.cell? ⟨gb253, 4, none⟩ = some (.int .i64 0) := (blk_cell BK253.out 4).trans rfl
                      have hfs32 := blk_frozen BK253.out 4
                      have hns32_0 := NB246_253.out
                      have hms32_0 := NB253_246.out
                      have hs33 : w27.cell? ⟨gb253, 5, none⟩ = some (.int .i64 0) := (blk_cell BK253.out 5).trans rfl
                      have hfs33 := blk_frozen BK253.out 5
                      have hns33_0 := NB246_253.out
                      have hms33_0 := NB253_246.out
                      have hs34 : w27.cell? ⟨gb253, 6, none⟩ = some (.int .u32 0) := (blk_cell BK253.out 6).trans rfl
                      have hfs34 := blk_frozen BK253.out 6
                      have hns34_0 := NB246_253.out
                      have hms34_0 := NB253_246.out
                      have hs35 : w27.cell? ⟨gb253, 7, none⟩ = some (.int .u32 0) := (blk_cell BK253.out 7).trans rfl
                      have hfs35 := blk_frozen BK253.out 7
                      have hns35_0 := NB246_253.out
                      have hms35_0 := NB253_246.out
                      have hs36 : w27.cell? ⟨gb253, 8, none⟩ = some (.int .u32 0) := (blk_cell BK253.out 8).trans rfl
                      have hfs36 := blk_frozen BK253.out 8
                      have hns36_0 := NB246_253.out
                      have hms36_0 := NB253_246.out
                      have hs37 : w27.cell? ⟨gb253, 9, none⟩ = some (.int .u64 0) := (blk_cell BK253.out 9).trans rfl
                      have hfs37 := blk_frozen BK253.out 9
                      have hns37_0 := NB246_253.out
                      have hms37_0 := NB253_246.out
                      have hs38 : w27.cell? ⟨gb253, 10, none⟩ = some (.int .u64 0) := (blk_cell BK253.out 10).trans rfl
                      have hfs38 := blk_frozen BK253.out 10
                      have hns38_0 := NB246_253.out
                      have hms38_0 := NB253_246.out
                      have hs39 : w27.cell? ⟨gb253, 11, none⟩ = some (.int .u64 0) := (blk_cell BK253.out 11).trans rfl
                      have hfs39 := blk_frozen BK253.out 11
                      have hns39_0 := NB246_253.out
                      have hms39_0 := NB253_246.out
                      have hs40 : w27.cell? ⟨gb253, 12, none⟩ = some (.int .u64 0) := (blk_cell BK253.out 12).trans rfl
                      have hfs40 := blk_frozen BK253.out 12
                      have hns40_0 := NB246_253.out
                      have hms40_0 := NB253_246.out
                      refine skip_ (w1 := ?_) (by rfl) rfl ?_ ?_
                      rotate_left
                      · go_simp
                        rfl
                      refine hK.out _ _ ⟨((cell_far (p := ⟨gb253, _, none⟩) (by first | exact Nat.ne_of_lt (Nat.lt_of_lt_of_le (by have := World.block_lt_of_cell? _ _ hw248_0; first | rwa [add_block] at this | exact this) GW253.out) | (rw [add_block]; exact Nat.ne_of_lt (Nat.lt_of_lt_of_le (by have := World.block_lt_of_cell? _ _ hw248_0; first | rwa [add_block] at this | exact this) GW253.out)) | (show (Addr.add _ _).block ≠ _; rw [add_block]; exact Nat.ne_of_lt (Nat.lt_of_lt_of_le (by have := World.block_lt_of_cell? _ _ hw248_0; first | rwa [add_block] at this | exact this) GW253.out)) | (dsimp only; exact Nat.ne_of_lt (Nat.lt_of_lt_of_le (by have := World.block_lt_of_cell? _ _ hw248_0; first | rwa [add_block] at this | exact this) GW253.out))) _).trans (((cell_far (p := ⟨gb253, _, none⟩) (by first | exact Nat.ne_of_lt (Nat.lt_of_lt_of_le (by have := World.block_lt_of_cell? _ _ hw248_0; first | rwa [add_block] at this | exact this) GW253.out) | (rw [add_block]; exact Nat.ne_of_lt (Nat.lt_of_lt_of_le (by have := World.block_lt_of_cell? _ _ hw248_0; first | rwa [add_block] at this | exact this) GW253.out)) | (show (Addr.add _ _).block ≠ _; rw [add_block]; exact Nat.ne_of_lt (Nat.lt_of_lt_of_le (by have := World.block_lt_of_cell? _ _ hw248_0; first | rwa [add_block] at this | exact this) GW253.out)) | (dsimp only; exact Nat.ne_of_lt (Nat.lt_of_lt_of_le (by have := World.block_lt_of_cell? _ _ hw248_0; first | rwa [add_block] at this | exact this) GW253.out))) _).trans (((cell_far (p := ⟨gb253, _, none⟩) (by first | exact Nat.ne_of_lt (Nat.lt_of_lt_of_le (by have := World.block_lt_of_cell? _ _ hw248_0; first | rwa [add_block] at this | exact this) GW253.out) | (rw [add_block]; exact Nat.ne_of_lt (Nat.lt_of_lt_of_le (by have := World.block_lt_of_cell? _ _ hw248_0; first | rwa [add_block] at this | exact this) GW253.out)) | (show (Addr.add _ _).block ≠ _; rw [add_block]; exact Nat.ne_of_lt (Nat.lt_of_lt_of_le (by have := World.block_lt_of_cell? _ _ hw248_0; first | rwa [add_block] at this | exact this) GW253.out)) | (dsimp only; exact Nat.ne_of_lt (Nat.lt_of_lt_of_le (by have := World.block_lt_of_cell? _ _ hw248_0; first | rwa [add_block] at this | exact this) GW253.out))) _).trans (((cell_far (p := ⟨gb253, _, none⟩) (by first | exact Nat.ne_of_lt (Nat.lt_of_lt_of_le (by have := World.block_lt_of_cell? _ _ hw248_0; first | rwa [add_block] at this | exact this) GW253.out) | (rw [add_block]; exact Nat.ne_of_lt (Nat.lt_of_lt_of_le (by have := World.block_lt_of_cell? _ _ hw248_0; first | rwa [add_block] at this | exact this) GW253.out)) | (show (Addr.add _ _).block ≠ _; rw [add_block]; exact Nat.ne_of_lt (Nat.lt_of_lt_of_le (by have := World.block_lt_of_cell? _ _ hw248_0; first | rwa [add_block] at this | exact this) GW253.out)) | (dsimp only; exact Nat.ne_of_lt (Nat.lt_of_lt_of_le (by have := World.block_lt_of_cell? _ _ hw248_0; first | rwa [add_block] at this | exact this) GW253.out))) _).trans (((cell_far (p := ⟨gb253, _, none⟩) (by first | exact Nat.ne_of_lt (Nat.lt_of_lt_of_le (by have := World.block_lt_of_cell? _ _ hw248_0; first | rwa [add_block] at this | exact this) GW253.out) | (rw [add_block]; exact Nat.ne_of_lt (Nat.lt_of_lt_of_le (by have := World.block_lt_of_cell? _ _ hw248_0; first | rwa [add_block] at this | exact this) GW253.out)) | (show (Addr.add _ _).block ≠ _; rw [add_block]; exact Nat.ne_of_lt (Nat.lt_of_lt_of_le (by have := World.block_lt_of_cell? _ _ hw248_0; first | rwa [add_block] at this | exact this) GW253.out)) | (dsimp only; exact Nat.ne_of_lt (Nat.lt_of_lt_of_le (by have := World.block_lt_of_cell? _ _ hw248_0; first | rwa [add_block] at this | exact this) GW253.out))) _).trans (((cell_far (p := ⟨gb253, _, none⟩) (by first | exact Nat.ne_of_lt (Nat.lt_of_lt_of_le (by have := World.block_lt_of_cell? _ _ hw248_0; first | rwa [add_block] at this | exact this) GW253.out) | (rw [add_block]; exact Nat.ne_of_lt (Nat.lt_of_lt_of_le (by have := World.block_lt_of_cell? _ _ hw248_0; first | rwa [add_block] at this | exact this) GW253.out)) | (show (Addr.add _ _).block ≠ _; rw [add_block]; exact Nat.ne_of_lt (Nat.lt_of_lt_of_le (by have := World.block_lt_of_cell? _ _ hw248_0; first | rwa [add_block] at this | exact this) GW253.out)) | (dsimp only; exact Nat.ne_of_lt (Nat.lt_of_lt_of_le (by have := World.block_lt_of_cell? _ _ hw248_0; first | rwa [add_block] at this | exact this) GW253.out))) _).trans (((cell_far (p := ⟨gb253, _, none⟩) (by first | exact Nat.ne_of_lt (Nat.lt_of_lt_of_le (by have := World.block_lt_of_cell? _ _ hw248_0; first | rwa [add_block] at this | exact this) GW253.out) | (rw [add_block]; exact Nat.ne_of_lt (Nat.lt_of_lt_of_le (by have := World.block_lt_of_cell? _ _ hw248_0; first | rwa [add_block] at this | exact this) GW253.out)) | (show (Addr.add _ _).block ≠ _; rw [add_block]; exact Nat.ne_of_lt (Nat.lt_of_lt_of_le (by have := World.block_lt_of_cell? _ _ hw248_0; first | rwa [add_block] at this | exact this) GW253.out)) | (dsimp only; exact Nat.ne_of_lt (Nat.lt_of_lt_of_le (by have := World.block_lt_of_cell? _ _ hw248_0; first | rwa [add_block] at this | exact this) GW253.out))) _).trans (((cell_far (p := ⟨gb253, _, none⟩) (by first | exact Nat.ne_of_lt (Nat.lt_of_lt_of_le (by have := World.block_lt_of_cell? _ _ hw248_0; first | rwa [add_block] at this | exact this) GW253.out) | (rw [add_block]; exact Nat.ne_of_lt (Nat.lt_of_lt_of_le (by have := World.block_lt_of_cell? _ _ hw248_0; first | rwa [add_block] at this | exact this) GW253.out)) | (show (Addr.add _ _).block ≠ _; rw [add_block]; exact Nat.ne_of_lt (Nat.lt_of_lt_of_le (by have := World.block_lt_of_cell? _ _ hw248_0; first | rwa [add_block] at this | exact this) GW253.out)) | (dsimp only; exact Nat.ne_of_lt (Nat.lt_of_lt_of_le (by have := World.block_lt_of_cell? _ _ hw248_0; first | rwa [add_block] at this | exact this) GW253.out))) _).trans (((cell_far (p := ⟨gb253, _, none⟩) (by first | exact Nat.ne_of_lt (Nat.lt_of_lt_of_le (by have := World.block_lt_of_cell? _ _ hw248_0; first | rwa [add_block] at this | exact this) GW253.out) | (rw [add_block]; exact Nat.ne_of_lt (Nat.lt_of_lt_of_le (by have := World.block_lt_of_cell? _ _ hw248_0; first | rwa [add_block] at this | exact this) GW253.out)) | (show (Addr.add _ _).block ≠ _; rw [add_block]; exact Nat.ne_of_lt (Nat.lt_of_lt_of_le (by have := World.block_lt_of_cell? _ _ hw248_0; first | rwa [add_block] at this | exact this) GW253.out)) | (dsimp only; exact Nat.ne_of_lt (Nat.lt_of_lt_of_le (by have := World.block_lt_of_cell? _ _ hw248_0; first | rwa [add_block] at this | exact this) GW253.out))) _).trans (((cell_far (p := ⟨gb253, _, none⟩) (by first | exact Nat.ne_of_lt (Nat.lt_of_lt_of_le (by have := World.block_lt_of_cell? _ _ hw248_0; first | rwa [add_block] at this | exact this) GW253.out) | (rw [add_block]; exact Nat.ne_of_lt (Nat.lt_of_lt_of_le (by have := World.block_lt_of_cell? _ _ hw248_0; first | rwa [add_block] at this | exact this) GW253.out)) | (show (Addr.add _ _).block ≠ _; rw [add_block]; exact Nat.ne_of_lt (Nat.lt_of_lt_of_le (by have := World.block_lt_of_cell? _ _ hw248_0; first | rwa [add_block] at this | exact this) GW253.out)) | (dsimp only; exact Nat.ne_of_lt (Nat.lt_of_lt_of_le (by have := World.block_lt_of_cell? _ _ hw248_0; first | rwa [add_block] at this | exact this) GW253.out))) _).trans (((cell_far (p := ⟨gb253, _, none⟩) (by first | exact Nat.ne_of_lt (Nat.lt_of_lt_of_le (by have := World.block_lt_of_cell? _ _ hw248_0; first | rwa [add_block] at this | exact this) GW253.out) | (rw [add_block]; exact Nat.ne_of_lt (Nat.lt_of_lt_of_le (by have := World.block_lt_of_cell? _ _ hw248_0; first | rwa [add_block] at this | exact this) GW253.out)) | (show (Addr.add _ _).block ≠ _; rw [add_block]; exact Nat.ne_of_lt (Nat.lt_of_lt_of_le (by have := World.block_lt_of_cell? _ _ hw248_0; first | rwa [add_block] at this | exact this) GW253.out)) | (dsimp only; exact Nat.ne_of_lt (Nat.lt_of_lt_of_le (by have := World.block_lt_of_cell? _ _ hw248_0; first | rwa [add_block] at this | exact this) GW253.out))) _).trans (((cell_far (p := ⟨gb253, _, none⟩) (by first | exact Nat.ne_of_lt (Nat.lt_of_lt_of_le (by have := World.block_lt_of_cell? _ _ hw248_0; first | rwa [add_block] at this | exact this) GW253.out) | (rw [add_block]; exact Nat.ne_of_lt (Nat.lt_of_lt_of_le (by have := World.block_lt_of_cell? _ _ hw248_0; first | rwa [add_block] at this | exact this) GW253.out)) | (show (Addr.add _ _).block ≠ _; rw [add_block]; exact Nat.ne_of_lt (Nat.lt_of_lt_of_le (by have := World.block_lt_of_cell? _ _ hw248_0; first | rwa [add_block] at this | exact this) GW253.out)) | (dsimp only; exact Nat.ne_of_lt (Nat.lt_of_lt_of_le (by have := World.block_lt_of_cell? _ _ hw248_0; first | rwa [add_block] at this | exact this) GW253.out))) _).trans (((cell_far (p := ⟨gb253, _, none⟩) (by first | exact Nat.ne_of_lt (Nat.lt_of_lt_of_le (by have := World.block_lt_of_cell? _ _ hw248_0; first | rwa [add_block] at this | exact this) GW253.out) | (rw [add_block]; exact Nat.ne_of_lt (Nat.lt_of_lt_of_le (by have := World.block_lt_of_cell? _ _ hw248_0; first | rwa [add_block] at this | exact this) GW253.out)) | (show (Addr.add _ _).block ≠ _; rw [add_block]; exact Nat.ne_of_lt (Nat.lt_of_lt_of_le (by have := World.block_lt_of_cell? _ _ hw248_0; first | rwa [add_block] at this | exact this) GW253.out)) | (dsimp only; exact Nat.ne_of_lt (Nat.lt_of_lt_of_le (by have := World.block_lt_of_cell? _ _ hw248_0; first | rwa [add_block] at this | exact this) GW253.out))) _).trans (hHeld.1)))))))))))))))))))))))))), ((cell_far (p := ⟨gb253, _, none⟩) (by first | exact Nat.ne_of_lt (Nat.lt_of_lt_of_le (by have := World.block_lt_of_cell? _ _ hw249_0; first | rwa [add_block] at this | exact this) GW253.out) | (rw [add_block]; exact Nat.ne_of_lt (Nat.lt_of_lt_of_le (by have := World.block_lt_of_cell? _ _ hw249_0; first | rwa [add_block] at this | exact this) GW253.out)) | (show (Addr.add _ _).block ≠ _; rw [add_block]; exact Nat.ne_of_lt (Nat.lt_of_lt_of_le (by have := World.block_lt_of_cell? _ _ hw249_0; first | rwa [add_block] at this | exact this) GW253.out)) | (dsimp only; exact Nat.ne_of_lt (Nat.lt_of_lt_of_le (by have := World.block_lt_of_cell? _ _ hw249_0; first | rwa [add_block] at this | exact this) GW253.out))) _).trans (((cell_far (p := ⟨gb253, _, none⟩) (by first | exact Nat.ne_of_lt (Nat.lt_of_lt_of_le (by have := World.block_lt_of_cell? _ _ hw249_0; first | rwa [add_block] at this | exact this) GW253.out) | (rw [add_block]; exact Nat.ne_of_lt (Nat.lt_of_lt_of_le (by have := World.block_lt_of_cell? _ _ hw249_0; first | rwa [add_block] at this | exact this) GW253.out)) | (show (Addr.add _ _).block ≠ _; rw [add_block]; exact Nat.ne_of_lt (Nat.lt_of_lt_of_le (by have := World.block_lt_of_cell? _ _ hw249_0; first | rwa [add_block] at this | exact this) GW253.out)) | (dsimp only; exact Nat.ne_of_lt (Nat.lt_of_lt_of_le (by have := World.block_lt_of_cell? _ _ hw249_0; first | rwa [add_block] at this | exact this) GW253.out))) _).trans (((cell_far (p := ⟨gb253, _, none⟩) (by first | exact Nat.ne_of_lt (Nat.lt_of_lt_of_le (by have := World.block_lt_of_cell? _ _ hw249_0; first | rwa [add_block] at this | exact this) GW253.out) | (rw [add_block]; exact Nat.ne_of_lt (Nat.lt_of_lt_of_le (by have := World.block_lt_of_cell? _ _ hw249_0; first | rwa [add_block] at this | exact this) GW253.out)) | (show (Addr.add _ _).block ≠ _; rw [add_block]; exact Nat.ne_of_lt (Nat.lt_of_lt_of_le (by have := World.block_lt_of_cell? _ _ hw249_0; first | rwa [add_block] at this | exact this) GW253.out)) | (dsimp only; exact Nat.ne_of_lt (Nat.lt_of_lt_of_le (by have := World.block_lt_of_cell? _ _ hw249_0; first | rwa [add_block] at this | exact this) GW253.out))) _).trans (((cell_far (p := ⟨gb253, _, none⟩) (by first | exact Nat.ne_of_lt (Nat.lt_of_lt_of_le (by have := World.block_lt_of_cell? _ _ hw249_0; first | rwa [add_block] at this | exact this) GW253.out) | (rw [add_block]; exact Nat.ne_of_lt (Nat.lt_of_lt_of_le (by have := World.block_lt_of_cell? _ _ hw249_0; first | rwa [add_block] at this | exact this) GW253.out)) | (show (Addr.add _ _).block ≠ _; rw [add_block]; exact Nat.ne_of_lt (Nat.lt_of_lt_of_le (by have := World.block_lt_of_cell? _ _ hw249_0; first | rwa [add_block] at this | exact this) GW253.out)) | (dsimp only; exact Nat.ne_of_lt (Nat.lt_of_lt_of_le (by have := World.block_lt_of_cell? _ _ hw249_0; first | rwa [add_block] at this | exact this) GW253.out))) _).trans (((cell_far (p := ⟨gb253, _, none⟩) (by first | exact Nat.ne_of_lt (Nat.lt_of_lt_of_le (by have := World.block_lt_of_cell? _ _ hw249_0; first | rwa [add_block] at this | exact this) GW253.out) | (rw [add_block]; exact Nat.ne_of_lt (Nat.lt_of_lt_of_le (by have := World.block_lt_of_cell? _ _ hw249_0; first | rwa [add_block] at this | exact this) GW253.out)) | (show (Addr.add _ _).block ≠ _; rw [add_block]; exact Nat.ne_of_lt (Nat.lt_of_lt_of_le (by have := World.block_lt_of_cell? _ _ hw249_0; first | rwa [add_block] at this | exact this) GW253.out)) | (dsimp only; exact Nat.ne_of_lt (Nat.lt_of_lt_of_le (by have := World.block_lt_of_cell? _ _ hw249_0; first | rwa [add_block] at this | exact this) GW253.out))) _).trans (((cell_far (p := ⟨gb253, _, none⟩) (by first | exact Nat.ne_of_lt (Nat.lt_of_lt_of_le (by have := World.block_lt_of_cell? _ _ hw249_0; first | rwa [add_block] at this | exact this) GW253.out) | (rw [add_block]; exact Nat.ne_of_lt (Nat.lt_of_lt_of_le (by have := World.block_lt_of_cell? _ _ hw249_0; first | rwa [add_block] at this | exact this) GW253.out)) | (show (Addr.add _ _).block ≠ _; rw [add_block]; exact Nat.ne_of_lt (Nat.lt_of_lt_of_le (by have := World.block_lt_of_cell? _ _ hw249_0; first | rwa [add_block] at this | exact this) GW253.out)) | (dsimp only; exact Nat.ne_of_lt (Nat.lt_of_lt_of_le (by have := World.block_lt_of_cell? _ _ hw249_0; first | rwa [add_block] at this | exact this) GW253.out))) _).trans (((cell_far (p := ⟨gb253, _, none⟩) (by first | exact Nat.ne_of_lt (Nat.lt_of_lt_of_le (by have := World.block_lt_of_cell? _ _ hw249_0; first | rwa [add_block] at this | exact this) GW253.out) | (rw [add_block]; exact Nat.ne_of_lt (Nat.lt_of_lt_of_le (by have := World.block_lt_of_cell? _ _ hw249_0; first | rwa [add_block] at this | exact this) GW253.out)) | (show (Addr.add _ _).block ≠ _; rw [add_block]; exact Nat.ne_of_lt (Nat.lt_of_lt_of_le (by have := World.block_lt_of_cell? _ _ hw249_0; first | rwa [add_block] at this | exact this) GW253.out)) | (dsimp only; exact Nat.ne_of_lt (Nat.lt_of_lt_of_le (by have := World.block_lt_of_cell? _ _ hw249_0; first | rwa [add_block] at this | exact this) GW253.out))) _).trans (((cell_far (p := ⟨gb253, _, none⟩) (by first | exact Nat.ne_of_lt (Nat.lt_of_lt_of_le (by have := World.block_lt_of_cell? _ _ hw249_0; first | rwa [add_block] at this | exact this) GW253.out) | (rw [add_block]; exact Nat.ne_of_lt (Nat.lt_of_lt_of_le (by have := World.block_lt_of_cell? _ _ hw249_0; first | rwa [add_block] at this | exact this) GW253.out)) | (show (Addr.add _ _).block ≠ _; rw [add_block]; exact Nat.ne_of_lt (Nat.lt_of_lt_of_le (by have := World.block_lt_of_cell? _ _ hw249_0; first | rwa [add_block] at this | exact this) GW253.out)) | (dsimp only; exact Nat.ne_of_lt (Nat.lt_of_lt_of_le (by have := World.block_lt_of_cell? _ _ hw249_0; first | rwa [add_block] at this | exact this) GW253.out))) _).trans (((cell_far (p := ⟨gb253, _, none⟩) (by first | exact Nat.ne_of_lt (Nat.lt_of_lt_of_le (by have := World.block_lt_of_cell? _ _ hw249_0; first | rwa [add_block] at this | exact this) GW253.out) | (rw [add_block]; exact Nat.ne_of_lt (Nat.lt_of_lt_of_le (by have := World.block_lt_of_cell? _ _ hw249_0; first | rwa [add_block] at this | exact this) GW253.out)) | (show (Addr.add _ _).block ≠ _; rw [add_block]; exact Nat.ne_of_lt (Nat.lt_of_lt_of_le (by have := World.block_lt_of_cell? _ _ hw249_0; first | rwa [add_block] at this | exact this) GW253.out)) | (dsimp only; exact Nat.ne_of_lt (Nat.lt_of_lt_of_le (by have := World.block_lt_of_cell? _ _ hw249_0; first | rwa [add_block] at this | exact this) GW253.out))) _).trans (((cell_far (p := ⟨gb253, _, none⟩) (by first | exact Nat.ne_of_lt (Nat.lt_of_lt_of_le (by have := World.block_lt_of_cell? _ _ hw249_0; first | rwa [add_block] at this | exact this) GW253.out) | (rw [add_block]; exact Nat.ne_of_lt (Nat.lt_of_lt_of_le (by have := World.block_lt_of_cell? _ _ hw249_0; first | rwa [add_block] at this | exact this) GW253.out)) | (show (Addr.add _ _).block ≠ _; rw [add_block]; exact Nat.ne_of_lt (Nat.lt_of_lt_of_le (by have := World.block_lt_of_cell? _ _ hw249_0; first | rwa [add_block] at this | exact this) GW253.out)) | (dsimp only; exact Nat.ne_of_lt (Nat.lt_of_lt_of_le (by have := World.block_lt_of_cell? _ _ hw249_0; first | rwa [add_block] at this | exact this) GW253.out))) _).trans (((cell_far (p := ⟨gb253, _, none⟩) (by first | exact Nat.ne_of_lt (Nat.lt_of_lt_of_le (by have := World.block_lt_of_cell? _ _ hw249_0; first | rwa [add_block] at this | exact this) GW253.out) | (rw [add_block]; exact Nat.ne_of_lt (Nat.lt_of_lt_of_le (by have := World.block_lt_of_cell? _ _ hw249_0; first | rwa [add_block] at this | exact this) GW253.out)) | (show (Addr.add _ _).block ≠ _; rw [add_block]; exact Nat.ne_of_lt (Nat.lt_of_lt_of_le (by have := World.block_lt_of_cell? _ _ hw249_0; first | rwa [add_block] at this | exact this) GW253.out)) | (dsimp only; exact Nat.ne_of_lt (Nat.lt_of_lt_of_le (by have := World.block_lt_of_cell? _ _ hw249_0; first | rwa [add_block] at this | exact this) GW253.out))) _).trans (((cell_far (p := ⟨gb253, _, none⟩) (by first | exact Nat.ne_of_lt (Nat.lt_of_lt_of_le (by have := World.block_lt_of_cell? _ _ hw249_0; first | rwa [add_block] at this | exact this) GW253.out) | (rw [add_block]; exact Nat.ne_of_lt (Nat.lt_of_lt_of_le (by have := World.block_lt_of_cell? _ _ hw249_0; first | rwa [add_block] at this | exact this) GW253.out)) | (show (Addr.add _ _).block ≠ _; rw [add_block]; exact Nat.ne_of_lt (Nat.lt_of_lt_of_le (by have := World.block_lt_of_cell? _ _ hw249_0; first | rwa [add_block] at this | exact this) GW253.out)) | (dsimp only; exact Nat.ne_of_lt (Nat.lt_of_lt_of_le (by have := World.block_lt_of_cell? _ _ hw249_0; first | rwa [add_block] at this | exact this) GW253.out))) _).trans (((cell_far (p := ⟨gb253, _, none⟩) (by first | exact Nat.ne_of_lt (Nat.lt_of_lt_of_le (by have := World.block_lt_of_cell? _ _ hw249_0; first | rwa [add_block] at this | exact this) GW253.out) | (rw [add_block]; exact Nat.ne_of_lt (Nat.lt_of_lt_of_le (by have := World.block_lt_of_cell? _ _ hw249_0; first | rwa [add_block] at this | exact this) GW253.out)) | (show (Addr.add _ _).block ≠ _; rw [add_block]; exact Nat.ne_of_lt (Nat.lt_of_lt_of_le (by have := World.block_lt_of_cell? _ _ hw249_0; first | rwa [add_block] at this | exact this) GW253.out)) | (dsimp only; exact Nat.ne_of_lt (Nat.lt_of_lt_of_le (by have := World.block_lt_of_cell? _ _ hw249_0; first | rwa [add_block] at this | exact this) GW253.out))) _).trans (hHeld.2.1)))))))))))))))))))))))))), ((cell_far (p := ⟨gb253, _, none⟩) (by first | exact Nat.ne_of_lt (Nat.lt_of_lt_of_le (by have := World.block_lt_of_cell? _ _ hw251_0; first | rwa [add_block] at this | exact this) GW253.out) | (rw [add_block]; exact Nat.ne_of_lt (Nat.lt_of_lt_of_le (by have := World.block_lt_of_cell? _ _ hw251_0; first | rwa [add_block] at this | exact this) GW253.out)) | (show (Addr.add _ _).block ≠ _; rw [add_block]; exact Nat.ne_of_lt (Nat.lt_of_lt_of_le (by have := World.block_lt_of_cell? _ _ hw251_0; first | rwa [add_block] at this | exact this) GW253.out)) | (dsimp only; exact Nat.ne_of_lt (Nat.lt_of_lt_of_le (by have := World.block_lt_of_cell? _ _ hw251_0; first | rwa [add_block] at this | exact this) GW253.out))) _).trans (((cell_far (p := ⟨gb253, _, none⟩) (by first | exact Nat.ne_of_lt (Nat.lt_of_lt_of_le (by have := World.block_lt_of_cell? _ _ hw251_0; first | rwa [add_block] at this | exact this) GW253.out) | (rw [add_block]; exact Nat.ne_of_lt (Nat.lt_of_lt_of_le (by have := World.block_lt_of_cell? _ _ hw251_0; first | rwa [add_block] at this | exact this) GW253.out)) | (show (Addr.add _ _).block ≠ _; rw [add_block]; exact Nat.ne_of_lt (Nat.lt_of_lt_of_le (by have := World.block_lt_of_cell? _ _ hw251_0; first | rwa [add_block] at this | exact this) GW253.out)) | (dsimp only; exact Nat.ne_of_lt (Nat.lt_of_lt_of_le (by have := World.block_lt_of_cell? _ _ hw251_0; first | rwa [add_block] at this | exact this) GW253.out))) _).trans (((cell_far (p := ⟨gb253, _, none⟩) (by first | exact Nat.ne_of_lt (Nat.lt_of_lt_of_le (by have := World.block_lt_of_cell? _ _ hw251_0; first | rwa [add_block] at this | exact this) GW253.out) | (rw [add_block]; exact Nat.ne_of_lt (Nat.lt_of_lt_of_le (by have := World.block_lt_of_cell? _ _ hw251_0; first | rwa [add_block] at this | exact this) GW253.out)) | (show (Addr.add _ _).block ≠ _; rw [add_block]; exact Nat.ne_of_lt (Nat.lt_of_lt_of_le (by have := World.block_lt_of_cell? _ _ hw251_0; first | rwa [add_block] at this | exact this) GW253.out)) | (dsimp only; exact Nat.ne_of_lt (Nat.lt_of_lt_of_le (by have := World.block_lt_of_cell? _ _ hw251_0; first | rwa [add_block] at this | exact this) GW253.out))) _).trans (((cell_far (p := ⟨gb253, _, none⟩) (by first | exact Nat.ne_of_lt (Nat.lt_of_lt_of_le (by have := World.block_lt_of_cell? _ _ hw251_0; first | rwa [add_block] at this | exact this) GW253.out) | (rw [add_block]; exact Nat.ne_of_lt (Nat.lt_of_lt_of_le (by have := World.block_lt_of_cell? _ _ hw251_0; first | rwa [add_block] at this | exact this) GW253.out)) | (show (Addr.add _ _).block ≠ _; rw [add_block]; exact Nat.ne_of_lt (Nat.lt_of_lt_of_le (by have := World.block_lt_of_cell? _ _ hw251_0; first | rwa [add_block] at this | exact this) GW253.out)) | (dsimp only; exact Nat.ne_of_lt (Nat.lt_of_lt_of_le (by have := World.block_lt_of_cell? _ _ hw251_0; first | rwa [add_block] at this | exact this) GW253.out))) _).trans (((cell_far (p := ⟨gb253, _, none⟩) (by first | exact Nat.ne_of_lt (Nat.lt_of_lt_of_le (by have := World.block_lt_of_cell? _ _ hw251_0; first | rwa [add_block] at this | exact this) GW253.out) | (rw [add_block]; exact Nat.ne_of_lt (Nat.lt_of_lt_of_le (by have := World.block_lt_of_cell? _ _ hw251_0; first | rwa [add_block] at this | exact this) GW253.out)) | (show (Addr.add _ _).block ≠ _; rw [add_block]; exact Nat.ne_of_lt (Nat.lt_of_lt_of_le (by have := World.block_lt_of_cell? _ _ hw251_0; first | rwa [add_block] at this | exact this) GW253.out)) | (dsimp only; exact Nat.ne_of_lt (Nat.lt_of_lt_of_le (by have := World.block_lt_of_cell? _ _ hw251_0; first | rwa [add_block] at this | exact this) GW253.out))) _).trans (((cell_far (p := ⟨gb253, _, none⟩) (by first | exact Nat.ne_of_lt (Nat.lt_of_lt_of_le (by have := World.block_lt_of_cell? _ _ hw251_0; first | rwa [add_block] at this | exact this) GW253.out) | (rw [add_block]; exact Nat.ne_of_lt (Nat.lt_of_lt_of_le (by have := World.block_lt_of_cell? _ _ hw251_0; first | rwa [add_block] at this | exact this) GW253.out)) | (show (Addr.add _ _).block ≠ _; rw [add_block]; exact Nat.ne_of_lt (Nat.lt_of_lt_of_le (by have := World.block_lt_of_cell? _ _ hw251_0; first | rwa [add_block] at this | exact this) GW253.out)) | (dsimp only; exact Nat.ne_of_lt (Nat.lt_of_lt_of_le (by have := World.block_lt_of_cell? _ _ hw251_0; first | rwa [add_block] at this | exact this) GW253.out))) _).trans (((cell_far (p := ⟨gb253, _, none⟩) (by first | exact Nat.ne_of_lt (Nat.lt_of_lt_of_le (by have := World.block_lt_of_cell? _ _ hw251_0; first | rwa [add_block] at this | exact this) GW253.out) | (rw [add_block]; exact Nat.ne_of_lt (Nat.lt_of_lt_of_le (by have := World.block_lt_of_cell? _ _ hw251_0; first | rwa [add_block] at this | exact this) GW253.out)) | (show (Addr.add _ _).block ≠ _; rw [add_block]; exact Nat.ne_of_lt (Nat.lt_of_lt_of_le (by have := World.block_lt_of_cell? _ _ hw251_0; first | rwa [add_block] at this | exact this) GW253.out)) | (dsimp only; exact Nat.ne_of_lt (Nat.lt_of_lt_of_le (by have := World.block_lt_of_cell? _ _ hw251_0; first | rwa [add_block] at this | exact this) GW253.out))) _).trans (((cell_far (p := ⟨gb253, _, none⟩) (by first | exact Nat.ne_of_lt (Nat.lt_of_lt_of_le (by have := World.block_lt_of_cell? _ _ hw251_0; first | rwa [add_block] at this | exact this) GW253.out) | (rw [add_block]; exact Nat.ne_of_lt (Nat.lt_of_lt_of_le (by have := World.block_lt_of_cell? _ _ hw251_0; first | rwa [add_block] at this | exact this) GW253.out)) | (show (Addr.add _ _).block ≠ _; rw [add_block]; exact Nat.ne_of_lt (Nat.lt_of_lt_of_le (by have := World.block_lt_of_cell? _ _ hw251_0; first | rwa [add_block] at this | exact this) GW253.out)) | (dsimp only; exact Nat.ne_of_lt (Nat.lt_of_lt_of_le (by have := World.block_lt_of_cell? _ _ hw251_0; first | rwa [add_block] at this | exact this) GW253.out))) _).trans (((cell_far (p := ⟨gb253, _, none⟩) (by first | exact Nat.ne_of_lt (Nat.lt_of_lt_of_le (by have := World.block_lt_of_cell? _ _ hw251_0; first | rwa [add_block] at this | exact this) GW253.out) | (rw [add_block]; exact Nat.ne_of_lt (Nat.lt_of_lt_of_le (by have := World.block_lt_of_cell? _ _ hw251_0; first | rwa [add_block] at this | exact this) GW253.out)) | (show (Addr.add _ _).block ≠ _; rw [add_block]; exact Nat.ne_of_lt (Nat.lt_of_lt_of_le (by have := World.block_lt_of_cell? _ _ hw251_0; first | rwa [add_block] at this | exact this) GW253.out)) | (dsimp only; exact Nat.ne_of_lt (Nat.lt_of_lt_of_le (by have := World.block_lt_of_cell? _ _ hw251_0; first | rwa [add_block] at this | exact this) GW253.out))) _).trans (((cell_far (p := ⟨gb253, _, none⟩) (by first | exact Nat.ne_of_lt (Nat.lt_of_lt_of_le (by have := World.block_lt_of_cell? _ _ hw251_0; first | rwa [add_block] at this | exact this) GW253.out) | (rw [add_block]; exact Nat.ne_of_lt (Nat.lt_of_lt_of_le (by have := World.block_lt_of_cell? _ _ hw251_0; first | rwa [add_block] at this | exact this) GW253.out)) | (show (Addr.add _ _).block ≠ _; rw [add_block]; exact Nat.ne_of_lt (Nat.lt_of_lt_of_le (by have := World.block_lt_of_cell? _ _ hw251_0; first | rwa [add_block] at this | exact this) GW253.out)) | (dsimp only; exact Nat.ne_of_lt (Nat.lt_of_lt_of_le (by have := World.block_lt_of_cell? _ _ hw251_0; first | rwa [add_block] at this | exact this) GW253.out))) _).trans (((cell_far (p := ⟨gb253, _, none⟩) (by first | exact Nat.ne_of_lt (Nat.lt_of_lt_of_le (by have := World.block_lt_of_cell? _ _ hw251_0; first | rwa [add_block] at this | exact this) GW253.out) | (rw [add_block]; exact Nat.ne_of_lt (Nat.lt_of_lt_of_le (by have := World.block_lt_of_cell? _ _ hw251_0; first | rwa [add_block] at this | exact this) GW253.out)) | (show (Addr.add _ _).block ≠ _; rw [add_block]; exact Nat.ne_of_lt (Nat.lt_of_lt_of_le (by have := World.block_lt_of_cell? _ _ hw251_0; first | rwa [add_block] at this | exact this) GW253.out)) | (dsimp only; exact Nat.ne_of_lt (Nat.lt_of_lt_of_le (by have := World.block_lt_of_cell? _ _ hw251_0; first | rwa [add_block] at this | exact this) GW253.out))) _).trans (((cell_far (p := ⟨gb253, _, none⟩) (by first | exact Nat.ne_of_lt (Nat.lt_of_lt_of_le (by have := World.block_lt_of_cell? _ _ hw251_0; first | rwa [add_block] at this | exact this) GW253.out) | (rw [add_block]; exact Nat.ne_of_lt (Nat.lt_of_lt_of_le (by have := World.block_lt_of_cell? _ _ hw251_0; first | rwa [add_block] at this | exact this) GW253.out)) | (show (Addr.add _ _).block ≠ _; rw [add_block]; exact Nat.ne_of_lt (Nat.lt_of_lt_of_le (by have := World.block_lt_of_cell? _ _ hw251_0; first | rwa [add_block] at this | exact this) GW253.out)) | (dsimp only; exact Nat.ne_of_lt (Nat.lt_of_lt_of_le (by have := World.block_lt_of_cell? _ _ hw251_0; first | rwa [add_block] at this | exact this) GW253.out))) _).trans (((cell_far (p := ⟨gb253, _, none⟩) (by first | exact Nat.ne_of_lt (Nat.lt_of_lt_of_le (by have := World.block_lt_of_cell? _ _ hw251_0; first | rwa [add_block] at this | exact this) GW253.out) | (rw [add_block]; exact Nat.ne_of_lt (Nat.lt_of_lt_of_le (by have := World.block_lt_of_cell? _ _ hw251_0; first | rwa [add_block] at this | exact this) GW253.out)) | (show (Addr.add _ _).block ≠ _; rw [add_block]; exact Nat.ne_of_lt (Nat.lt_of_lt_of_le (by have := World.block_lt_of_cell? _ _ hw251_0; first | rwa [add_block] at this | exact this) GW253.out)) | (dsimp only; exact Nat.ne_of_lt (Nat.lt_of_lt_of_le (by have := World.block_lt_of_cell? _ _ hw251_0; first | rwa [add_block] at this | exact this) GW253.out))) _).trans (hHeld.2.2))))))))))))))))))))))))))⟩ (fun hHeld => ?_)
                      clear hK K
                      refine done_ (done_of HT_.out (by kernel_rfl)) ?_
                      try go_wp2_with (first | ((with_reducible refine gate_callee (f := 30) rfl ?_); refine goesL_ (some 45) rfl rfl Try.func30 (by kernel_rfl) rfl #[.slice (some ad247) l0.length c0, .int .i64 4, .int .i64 4] rfl (by (try simp only [List.map_toArray, List.map_cons, List.map_nil]); first | done | rfl | (simp only [List.length_drop, List.length_take]; rfl)) ?_; (with_reducible refine (timesyncref19_get.calls kj5 _ _ l0 4 4 t254 _ ?side1 ?side2 A16.out).mono ?_); (case side1 => exact Kd.C_below HR0.out (by repeat (first | (with_reducible first | exact HB.out | apply below_alloc | apply pw_below_drewN | apply below_drew1 | refine below_set ?_ GE246.out | refine below_set ?_ GE253.out) | exact HB.out))); (case side2 => exact HC0.out); rintro e w' ⟨rfl, ⟨nd, rfl⟩⟩; refine ⟨_, rfl, ?_⟩; have hnb41 := NB253_246.out; have hnc41 := NB246_253.out; have hcz42_0 : w27.cell? ⟨gb253, 0, none⟩ = some (.int .i64 0) := (blk_cell BK253.out 0).trans rfl; have hcz42_1 : w27.cell? ⟨gb253, 1, none⟩ = some (.int .i64 0) := (blk_cell BK253.out 1).trans rfl; have hcz42_2 : w27.cell? ⟨gb253, 2, none⟩ = some (.int .i64 0) := (blk_cell BK253.out 2).trans rfl; have hcz42_3 : w27.cell? ⟨gb253, 3, none⟩ = some (.int .i64 0) := (blk_cell BK253.out 3).trans rfl; have hcz42_4 : w27.cell? ⟨gb253, 4, none⟩ = some (.int .i64 0) := (blk_cell BK253.out 4).trans rfl; have hcz42_5 : w27.cell? ⟨gb253, 5, none⟩ = some (.int .i64 0) := (blk_cell BK253.out 5).trans rfl; have hcz42_6 : w27.cell? ⟨gb253, 6, none⟩ = some (.int .u32 0) := (blk_cell BK253.out 6).trans rfl; have hcz42_7 : w27.cell? ⟨gb253, 7, none⟩ = some (.int .u32 0) := (blk_cell BK253.out 7).trans rfl; have hcz42_8 : w27.cell? ⟨gb253, 8, none⟩ = some (.int .u32 0) := (blk_cell BK253.out 8).trans rfl; have hcz42_9 : w27.cell? ⟨gb253, 9, none⟩ = some (.int .u64 0) := (blk_cell BK253.out 9).trans rfl; have hcz42_10 : w27.cell? ⟨gb253, 10, none⟩ = some (.int .u64 0) := (blk_cell BK253.out 10).trans rfl; have hcz42_11 : w27.cell? ⟨gb253, 11, none⟩ = some (.int .u64 0) := (blk_cell BK253.out 11).trans rfl; have hcz42_12 : w27.cell? ⟨gb253, 12, none⟩ = some (.int .u64 0) := (blk_cell BK253.out 12).trans rfl; have hfz42_0 := blk_frozen BK253.out 0; have hfz42_1 := blk_frozen BK253.out 1; have hfz42_2 := blk_frozen BK253.out 2; have hfz42_3 := blk_frozen BK253.out 3; have hfz42_4 := blk_frozen BK253.out 4; have hfz42_5 := blk_frozen BK253.out 5; have hfz42_6 := blk_frozen BK253.out 6; have hfz42_7 := blk_frozen BK253.out 7; have hfz42_8 := blk_frozen BK253.out 8; have hfz42_9 := blk_frozen BK253.out 9; have hfz42_10 := blk_frozen BK253.out 10; have hfz42_11 := blk_frozen BK253.out 11; have hfz42_12 := blk_frozen BK253.out 12) | ((with_reducible refine gate_callee (f := 30) rfl ?_); refine goesL_ (some 49) rfl rfl Try.func30 (by kernel_rfl) rfl #[.slice (some ad247) l0.length c0, .int .i64 8, .int .i64 4] rfl (by (try simp only [List.map_toArray, List.map_cons, List.map_nil]); first | done | rfl | (simp only [List.length_drop, List.length_take]; rfl)) ?_; (with_reducible refine (timesyncref19_get.calls kj5 _ _ l0 8 4 t255 _ ?side1 ?side2 A17.out).mono ?_); (case side1 => exact Kd.C_below HR0.out (by repeat (first | (with_reducible first | exact HB.out | apply below_alloc | apply pw_below_drewN | apply below_drew1 | refine below_set ?_ GE246.out | refine below_set ?_ GE253.out) | exact HB.out))); (case side2 => exact HC0.out); rintro e w' ⟨rfl, ⟨nd, rfl⟩⟩; refine ⟨_, rfl, ?_⟩) | ((with_reducible refine gate_callee (f := 30) rfl ?_); refine goesL_ (some 53) rfl rfl Try.func30 (by kernel_rfl) rfl #[.slice (some ad247) l0.length c0, .int .i64 12, .int .i64 4] rfl (by (try simp only [List.map_toArray, List.map_cons, List.map_nil]); first | done | rfl | (simp only [List.length_drop, List.length_take]; rfl)) ?_; (with_reducible refine (timesyncref19_get.calls kj5 _ _ l0 12 4 t256 _ ?side1 ?side2 A18.out).mono ?_); (case side1 => exact Kd.C_below HR0.out (by repeat (first | (with_reducible first | exact HB.out | apply below_alloc | apply pw_below_drewN | apply below_drew1 | refine below_set ?_ GE246.out | refine below_set ?_ GE253.out) | exact HB.out))); (case side2 => exact HC0.out); rintro e w' ⟨rfl, ⟨nd, rfl⟩⟩; refine ⟨_, rfl, ?_⟩) | ((with_reducible refine gate_callee (f := 30) rfl ?_); refine goesL_ (some 57) rfl rfl Try.func30 (by kernel_rfl) rfl #[.slice (some ad247) l0.length c0, .int .i64 16, .int .i64 8] rfl (by (try simp only [List.map_toArray, List.map_cons, List.map_nil]); first | done | rfl | (simp only [List.length_drop, List.length_take]; rfl)) ?_; (with_reducible refine (timesyncref19_get.calls kj5 _ _ l0 16 8 t257 _ ?side1 ?side2 A19.out).mono ?_); (case side1 => exact Kd.C_below HR0.out (by repeat (first | (with_reducible first | exact HB.out | apply below_alloc | apply pw_below_drewN | apply below_drew1 | refine below_set ?_ GE246.out | refine below_set ?_ GE253.out) | exact HB.out))); (case side2 => exact HC0.out); rintro e w' ⟨rfl, ⟨nd, rfl⟩⟩; refine ⟨_, rfl, ?_⟩) | ((with_reducible refine gate_callee (f := 30) rfl ?_); refine goesL_ (some 60) rfl rfl Try.func30 (by kernel_rfl) rfl #[.slice (some ad247) l0.length c0, .int .i64 24, .int .i64 8] rfl (by (try simp only [List.map_toArray, List.map_cons, List.map_nil]); first | done | rfl | (simp only [List.length_drop, List.length_take]; rfl)) ?_; (with_reducible refine (timesyncref19_get.calls kj5 _ _ l0 24 8 t258 _ ?side1 ?side2 A20.out).mono ?_); (case side1 => exact Kd.C_below HR0.out (by repeat (first | (with_reducible first | exact HB.out | apply below_alloc | apply pw_below_drewN | apply below_drew1 | refine below_set ?_ GE246.out | refine below_set ?_ GE253.out) | exact HB.out))); (case side2 => exact HC0.out); rintro e w' ⟨rfl, ⟨nd, rfl⟩⟩; refine ⟨_, rfl, ?_⟩) | ((with_reducible refine gate_callee (f := 30) rfl ?_); refine goesL_ (some 63) rfl rfl Try.func30 (by kernel_rfl) rfl #[.slice (some ad247) l0.length c0, .int .i64 32, .int .i64 8] rfl (by (try simp only [List.map_toArray, List.map_cons, List.map_nil]); first | done | rfl | (simp only [List.length_drop, List.length_take]; rfl)) ?_; (with_reducible refine (timesyncref19_get.calls kj5 _ _ l0 32 8 t259 _ ?side1 ?side2 A21.out).mono ?_); (case side1 => exact Kd.C_below HR0.out (by repeat (first | (with_reducible first | exact HB.out | apply below_alloc | apply pw_below_drewN | apply below_drew1 | refine below_set ?_ GE246.out | refine below_set ?_ GE253.out) | exact HB.out))); (case side2 => exact HC0.out); rintro e w' ⟨rfl, ⟨nd, rfl⟩⟩; refine ⟨_, rfl, ?_⟩) | ((with_reducible refine gate_callee (f := 30) rfl ?_); refine goesL_ (some 66) rfl rfl Try.func30 (by kernel_rfl) rfl #[.slice (some ad247) l0.length c0, .int .i64 40, .int .i64 8] rfl (by (try simp only [List.map_toArray, List.map_cons, List.map_nil]); first | done | rfl | (simp only [List.length_drop, List.length_take]; rfl)) ?_; (with_reducible refine (timesyncref19_get.calls kj5 _ _ l0 40 8 t260 _ ?side1 ?side2 A22.out).mono ?_); (case side1 => exact Kd.C_below HR0.out (by repeat (first | (with_reducible first | exact HB.out | apply below_alloc | apply pw_below_drewN | apply below_drew1 | refine below_set ?_ GE246.out | refine below_set ?_ GE253.out) | exact HB.out))); (case side2 => exact HC0.out); rintro e w' ⟨rfl, ⟨nd, rfl⟩⟩; refine ⟨_, rfl, ?_⟩))
                      simp only [show ∀ (w : World) (n : Nat) (p : Addr) (v : Value), (w.drewN n).setCell p v = (w.setCell p v).drewN n from fun _ _ _ _ => rfl, World.drewN_drewN]
                      have n0_ : Aside0 (((((((((((((((((((((w27.setCell ⟨gb253, 0, none⟩ (.int .i64 (wrap64 (Int.tdiv (wrap64 (rd l0 0)) 64)))).setCell ⟨gb253, 1, none⟩ (.int .i64 (Int.tmod (wrap64 (Int.tdiv (wrap64 (rd l0 0)) 8)) 8))).setCell ⟨gb253, 2, none⟩ (.int .i64 (Int.tmod (wrap64 (rd l0 0)) 8))).setCell ⟨gb253, 3, none⟩ (.int .i64 (wrap64 (rd l0 1)))).setCell ⟨gb253, 4, none⟩ (.int .i64 t250)).setCell ⟨gb253, 5, none⟩ (.int .i64 t252)).setCell ⟨gb253, 6, none⟩ (.int .u32 0)).setCell ⟨gb253, 7, none⟩ (.int .u32 0)).setCell ⟨gb253, 8, none⟩ (.int .u32 0)).setCell ⟨gb253, 9, none⟩ (.int .u64 0)).setCell ⟨gb253, 10, none⟩ (.int .u64 0)).setCell ⟨gb253, 11, none⟩ (.int .u64 0)).setCell ⟨gb253, 12, none⟩ (.int .u64 0)).setCell ⟨gb253, 6, none⟩ (.int .u32 ((t254) % 4294967296))).setCell ⟨gb253, 7, none⟩ (.int .u32 ((t255) % 4294967296))).setCell ⟨gb253, 8, none⟩ (.int .u32 ((t256) % 4294967296))).setCell ⟨gb253, 9, none⟩ (.int .u64 t257)).setCell ⟨gb253, 10, none⟩ (.int .u64 t258)).setCell ⟨gb253, 11, none⟩ (.int .u64 t259)).setCell ⟨gb253, 12, none⟩ (.int .u64 t260)).heap[gb246]? = some (.cells #[.int .i64 0, .int .i64 0, .int .i64 0, .int .i64 0, .int .i64 0, .int .i64 0, .int .u32 0, .int .u32 0, .int .u32 0, .int .u64 0, .int .u64 0, .int .u64 0, .int .u64 0] 25 (0, 0))) := ⟨by (with_reducible repeat (first | refine blk_drewN ?_ _ | refine blk_drew ?_ | refine blk_alloc ?_ _)); refine blk_far ?_ NB246_253.out _; (with_reducible repeat (first | refine blk_drewN ?_ _ | refine blk_drew ?_ | refine blk_alloc ?_ _)); refine blk_far ?_ NB246_253.out _; (with_reducible repeat (first | refine blk_drewN ?_ _ | refine blk_drew ?_ | refine blk_alloc ?_ _)); refine blk_far ?_ NB246_253.out _; (with_reducible repeat (first | refine blk_drewN ?_ _ | refine blk_drew ?_ | refine blk_alloc ?_ _)); refine blk_far ?_ NB246_253.out _; (with_reducible repeat (first | refine blk_drewN ?_ _ | refine blk_drew ?_ | refine blk_alloc ?_ _)); refine blk_far ?_ NB246_253.out _; (with_reducible repeat (first | refine blk_drewN ?_ _ | refine blk_drew ?_ | refine blk_alloc ?_ _)); refine blk_far ?_ NB246_253.out _; (with_reducible repeat (first | refine blk_drewN ?_ _ | refine blk_drew ?_ | refine blk_alloc ?_ _)); refine blk_far ?_ NB246_253.out _; (with_reducible repeat (first | refine blk_drewN ?_ _ | refine blk_drew ?_ | refine blk_alloc ?_ _)); refine blk_far ?_ NB246_253.out _; (with_reducible repeat (first | refine blk_drewN ?_ _ | refine blk_drew ?_ | refine blk_alloc ?_ _)); refine blk_far ?_ NB246_253.out _; (with_reducible repeat (first | refine blk_drewN ?_ _ | refine blk_drew ?_ | refine blk_alloc ?_ _)); refine blk_far ?_ NB246_253.out _; (with_reducible repeat (first | refine blk_drewN ?_ _ | refine blk_drew ?_ | refine blk_alloc ?_ _)); refine blk_far ?_ NB246_253.out _; (with_reducible repeat (first | refine blk_drewN ?_ _ | refine blk_drew ?_ | refine blk_alloc ?_ _)); refine blk_far ?_ NB246_253.out _; (with_reducible repeat (first | refine blk_drewN ?_ _ | refine blk_drew ?_ | refine blk_alloc ?_ _)); refine blk_far ?_ NB246_253.out _; (with_reducible repeat (first | refine blk_drewN ?_ _ | refine blk_drew ?_ | refine blk_alloc ?_ _)); refine blk_far ?_ NB246_253.out _; (with_reducible repeat (first | refine blk_drewN ?_ _ | refine blk_drew ?_ | refine blk_alloc ?_ _)); refine blk_far ?_ NB246_253.out _; (with_reducible repeat (first | refine blk_drewN ?_ _ | refine blk_drew ?_ | refine blk_alloc ?_ _)); refine blk_far ?_ NB246_253.out _; (with_reducible repeat (first | refine blk_drewN ?_ _ | refine blk_drew ?_ | refine blk_alloc ?_ _)); refine blk_far ?_ NB246_253.out _; (with_reducible repeat (first | refine blk_drewN ?_ _ | refine blk_drew ?_ | refine blk_alloc ?_ _)); refine blk_far ?_ NB246_253.out _; (with_reducible repeat (first | refine blk_drewN ?_ _ | refine blk_drew ?_ | refine blk_alloc ?_ _)); refine blk_far ?_ NB246_253.out _; (with_reducible repeat (first | refine blk_drewN ?_ _ | refine blk_drew ?_ | refine blk_alloc ?_ _)); refine blk_far ?_ NB246_253.out _; (with_reducible repeat (first | refine blk_drewN ?_ _ | refine blk_drew ?_ | refine blk_alloc ?_ _)); exact BK246.out⟩
                      have n1_ : Aside0 (((((((((((((((((((((w27.setCell ⟨gb253, 0, none⟩ (.int .i64 (wrap64 (Int.tdiv (wrap64 (rd l0 0)) 64)))).setCell ⟨gb253, 1, none⟩ (.int .i64 (Int.tmod (wrap64 (Int.tdiv (wrap64 (rd l0 0)) 8)) 8))).setCell ⟨gb253, 2, none⟩ (.int .i64 (Int.tmod (wrap64 (rd l0 0)) 8))).setCell ⟨gb253, 3, none⟩ (.int .i64 (wrap64 (rd l0 1)))).setCell ⟨gb253, 4, none⟩ (.int .i64 t250)).setCell ⟨gb253, 5, none⟩ (.int .i64 t252)).setCell ⟨gb253, 6, none⟩ (.int .u32 0)).setCell ⟨gb253, 7, none⟩ (.int .u32 0)).setCell ⟨gb253, 8, none⟩ (.int .u32 0)).setCell ⟨gb253, 9, none⟩ (.int .u64 0)).setCell ⟨gb253, 10, none⟩ (.int .u64 0)).setCell ⟨gb253, 11, none⟩ (.int .u64 0)).setCell ⟨gb253, 12, none⟩ (.int .u64 0)).setCell ⟨gb253, 6, none⟩ (.int .u32 ((t254) % 4294967296))).setCell ⟨gb253, 7, none⟩ (.int .u32 ((t255) % 4294967296))).setCell ⟨gb253, 8, none⟩ (.int .u32 ((t256) % 4294967296))).setCell ⟨gb253, 9, none⟩ (.int .u64 t257)).setCell ⟨gb253, 10, none⟩ (.int .u64 t258)).setCell ⟨gb253, 11, none⟩ (.int .u64 t259)).setCell ⟨gb253, 12, none⟩ (.int .u64 t260)).heap[gb253]? = some (.cells #[.int .i64 (wrap64 (Int.tdiv (wrap64 (rd l0 0)) 64)), .int .i64 (Int.tmod (wrap64 (Int.tdiv (wrap64 (rd l0 0)) 8)) 8), .int .i64 (Int.tmod (wrap64 (rd l0 0)) 8), .int .i64 (wrap64 (rd l0 1)), .int .i64 t250, .int .i64 t252, .int .u32 ((t254) % 4294967296), .int .u32 ((t255) % 4294967296), .int .u32 ((t256) % 4294967296), .int .u64 t257, .int .u64 t258, .int .u64 t259, .int .u64 t260] 25 (0, 0))) := ⟨by (with_reducible repeat (first | refine blk_drewN ?_ _ | refine blk_drew ?_ | refine blk_alloc ?_ _)); refine blk_put (cs := #[.int .i64 (wrap64 (Int.tdiv (wrap64 (rd l0 0)) 64)), .int .i64 (Int.tmod (wrap64 (Int.tdiv (wrap64 (rd l0 0)) 8)) 8), .int .i64 (Int.tmod (wrap64 (rd l0 0)) 8), .int .i64 (wrap64 (rd l0 1)), .int .i64 t250, .int .i64 t252, .int .u32 ((t254) % 4294967296), .int .u32 ((t255) % 4294967296), .int .u32 ((t256) % 4294967296), .int .u64 t257, .int .u64 t258, .int .u64 t259, .int .u64 0]) ?_ 12 _ rfl; (with_reducible repeat (first | refine blk_drewN ?_ _ | refine blk_drew ?_ | refine blk_alloc ?_ _)); refine blk_put (cs := #[.int .i64 (wrap64 (Int.tdiv (wrap64 (rd l0 0)) 64)), .int .i64 (Int.tmod (wrap64 (Int.tdiv (wrap64 (rd l0 0)) 8)) 8), .int .i64 (Int.tmod (wrap64 (rd l0 0)) 8), .int .i64 (wrap64 (rd l0 1)), .int .i64 t250, .int .i64 t252, .int .u32 ((t254) % 4294967296), .int .u32 ((t255) % 4294967296), .int .u32 ((t256) % 4294967296), .int .u64 t257, .int .u64 t258, .int .u64 0, .int .u64 0]) ?_ 11 _ rfl; (with_reducible repeat (first | refine blk_drewN ?_ _ | refine blk_drew ?_ | refine blk_alloc ?_ _)); refine blk_put (cs := #[.int .i64 (wrap64 (Int.tdiv (wrap64 (rd l0 0)) 64)), .int .i64 (Int.tmod (wrap64 (Int.tdiv (wrap64 (rd l0 0)) 8)) 8), .int .i64 (Int.tmod (wrap64 (rd l0 0)) 8), .int .i64 (wrap64 (rd l0 1)), .int .i64 t250, .int .i64 t252, .int .u32 ((t254) % 4294967296), .int .u32 ((t255) % 4294967296), .int .u32 ((t256) % 4294967296), .int .u64 t257, .int .u64 0, .int .u64 0, .int .u64 0]) ?_ 10 _ rfl; (with_reducible repeat (first | refine blk_drewN ?_ _ | refine blk_drew ?_ | refine blk_alloc ?_ _)); refine blk_put (cs := #[.int .i64 (wrap64 (Int.tdiv (wrap64 (rd l0 0)) 64)), .int .i64 (Int.tmod (wrap64 (Int.tdiv (wrap64 (rd l0 0)) 8)) 8), .int .i64 (Int.tmod (wrap64 (rd l0 0)) 8), .int .i64 (wrap64 (rd l0 1)), .int .i64 t250, .int .i64 t252, .int .u32 ((t254) % 4294967296), .int .u32 ((t255) % 4294967296), .int .u32 ((t256) % 4294967296), .int .u64 0, .int .u64 0, .int .u64 0, .int .u64 0]) ?_ 9 _ rfl; (with_reducible repeat (first | refine blk_drewN ?_ _ | refine blk_drew ?_ | refine blk_alloc ?_ _)); refine blk_put (cs := #[.int .i64 (wrap64 (Int.tdiv (wrap64 (rd l0 0)) 64)), .int .i64 (Int.tmod (wrap64 (Int.tdiv (wrap64 (rd l0 0)) 8)) 8), .int .i64 (Int.tmod (wrap64 (rd l0 0)) 8), .int .i64 (wrap64 (rd l0 1)), .int .i64 t250, .int .i64 t252, .int .u32 ((t254) % 4294967296), .int .u32 ((t255) % 4294967296), .int .u32 0, .int .u64 0, .int .u64 0, .int .u64 0, .int .u64 0]) ?_ 8 _ rfl; (with_reducible repeat (first | refine blk_drewN ?_ _ | refine blk_drew ?_ | refine blk_alloc ?_ _)); refine blk_put (cs := #[.int .i64 (wrap64 (Int.tdiv (wrap64 (rd l0 0)) 64)), .int .i64 (Int.tmod (wrap64 (Int.tdiv (wrap64 (rd l0 0)) 8)) 8), .int .i64 (Int.tmod (wrap64 (rd l0 0)) 8), .int .i64 (wrap64 (rd l0 1)), .int .i64 t250, .int .i64 t252, .int .u32 ((t254) % 4294967296), .int .u32 0, .int .u32 0, .int .u64 0, .int .u64 0, .int .u64 0, .int .u64 0]) ?_ 7 _ rfl; (with_reducible repeat (first | refine blk_drewN ?_ _ | refine blk_drew ?_ | refine blk_alloc ?_ _)); refine blk_put (cs := #[.int .i64 (wrap64 (Int.tdiv (wrap64 (rd l0 0)) 64)), .int .i64 (Int.tmod (wrap64 (Int.tdiv (wrap64 (rd l0 0)) 8)) 8), .int .i64 (Int.tmod (wrap64 (rd l0 0)) 8), .int .i64 (wrap64 (rd l0 1)), .int .i64 t250, .int .i64 t252, .int .u32 0, .int .u32 0, .int .u32 0, .int .u64 0, .int .u64 0, .int .u64 0, .int .u64 0]) ?_ 6 _ rfl; (with_reducible repeat (first | refine blk_drewN ?_ _ | refine blk_drew ?_ | refine blk_alloc ?_ _)); refine blk_put (cs := #[.int .i64 (wrap64 (Int.tdiv (wrap64 (rd l0 0)) 64)), .int .i64 (Int.tmod (wrap64 (Int.tdiv (wrap64 (rd l0 0)) 8)) 8), .int .i64 (Int.tmod (wrap64 (rd l0 0)) 8), .int .i64 (wrap64 (rd l0 1)), .int .i64 t250, .int .i64 t252, .int .u32 0, .int .u32 0, .int .u32 0, .int .u64 0, .int .u64 0, .int .u64 0, .int .u64 0]) ?_ 12 _ rfl; (with_reducible repeat (first | refine blk_drewN ?_ _ | refine blk_drew ?_ | refine blk_alloc ?_ _)); refine blk_put (cs := #[.int .i64 (wrap64 (Int.tdiv (wrap64 (rd l0 0)) 64)), .int .i64 (Int.tmod (wrap64 (Int.tdiv (wrap64 (rd l0 0)) 8)) 8), .int .i64 (Int.tmod (wrap64 (rd l0 0)) 8), .int .i64 (wrap64 (rd l0 1)), .int .i64 t250, .int .i64 t252, .int .u32 0, .int .u32 0, .int .u32 0, .int .u64 0, .int .u64 0, .int .u64 0, .int .u64 0]) ?_ 11 _ rfl; (with_reducible repeat (first | refine blk_drewN ?_ _ | refine blk_drew ?_ | refine blk_alloc ?_ _)); refine blk_put (cs := #[.int .i64 (wrap64 (Int.tdiv (wrap64 (rd l0 0)) 64)), .int .i64 (Int.tmod (wrap64 (Int.tdiv (wrap64 (rd l0 0)) 8)) 8), .int .i64 (Int.tmod (wrap64 (rd l0 0)) 8), .int .i64 (wrap64 (rd l0 1)), .int .i64 t250, .int .i64 t252, .int .u32 0, .int .u32 0, .int .u32 0, .int .u64 0, .int .u64 0, .int .u64 0, .int .u64 0]) ?_ 10 _ rfl; (with_reducible repeat (first | refine blk_drewN ?_ _ | refine blk_drew ?_ | refine blk_alloc ?_ _)); refine blk_put (cs := #[.int .i64 (wrap64 (Int.tdiv (wrap64 (rd l0 0)) 64)), .int .i64 (Int.tmod (wrap64 (Int.tdiv (wrap64 (rd l0 0)) 8)) 8), .int .i64 (Int.tmod (wrap64 (rd l0 0)) 8), .int .i64 (wrap64 (rd l0 1)), .int .i64 t250, .int .i64 t252, .int .u32 0, .int .u32 0, .int .u32 0, .int .u64 0, .int .u64 0, .int .u64 0, .int .u64 0]) ?_ 9 _ rfl; (with_reducible repeat (first | refine blk_drewN ?_ _ | refine blk_drew ?_ | refine blk_alloc ?_ _)); refine blk_put (cs := #[.int .i64 (wrap64 (Int.tdiv (wrap64 (rd l0 0)) 64)), .int .i64 (Int.tmod (wrap64 (Int.tdiv (wrap64 (rd l0 0)) 8)) 8), .int .i64 (Int.tmod (wrap64 (rd l0 0)) 8), .int .i64 (wrap64 (rd l0 1)), .int .i64 t250, .int .i64 t252, .int .u32 0, .int .u32 0, .int .u32 0, .int .u64 0, .int .u64 0, .int .u64 0, .int .u64 0]) ?_ 8 _ rfl; (with_reducible repeat (first | refine blk_drewN ?_ _ | refine blk_drew ?_ | refine blk_alloc ?_ _)); refine blk_put (cs := #[.int .i64 (wrap64 (Int.tdiv (wrap64 (rd l0 0)) 64)), .int .i64 (Int.tmod (wrap64 (Int.tdiv (wrap64 (rd l0 0)) 8)) 8), .int .i64 (Int.tmod (wrap64 (rd l0 0)) 8), .int .i64 (wrap64 (rd l0 1)), .int .i64 t250, .int .i64 t252, .int .u32 0, .int .u32 0, .int .u32 0, .int .u64 0, .int .u64 0, .int .u64 0, .int .u64 0]) ?_ 7 _ rfl; (with_reducible repeat (first | refine blk_drewN ?_ _ | refine blk_drew ?_ | refine blk_alloc ?_ _)); refine blk_put (cs := #[.int .i64 (wrap64 (Int.tdiv (wrap64 (rd l0 0)) 64)), .int .i64 (Int.tmod (wrap64 (Int.tdiv (wrap64 (rd l0 0)) 8)) 8), .int .i64 (Int.tmod (wrap64 (rd l0 0)) 8), .int .i64 (wrap64 (rd l0 1)), .int .i64 t250, .int .i64 t252, .int .u32 0, .int .u32 0, .int .u32 0, .int .u64 0, .int .u64 0, .int .u64 0, .int .u64 0]) ?_ 6 _ rfl; (with_reducible repeat (first | refine blk_drewN ?_ _ | refine blk_drew ?_ | refine blk_alloc ?_ _)); refine blk_put (cs := #[.int .i64 (wrap64 (Int.tdiv (wrap64 (rd l0 0)) 64)), .int .i64 (Int.tmod (wrap64 (Int.tdiv (wrap64 (rd l0 0)) 8)) 8), .int .i64 (Int.tmod (wrap64 (rd l0 0)) 8), .int .i64 (wrap64 (rd l0 1)), .int .i64 t250, .int .i64 0, .int .u32 0, .int .u32 0, .int .u32 0, .int .u64 0, .int .u64 0, .int .u64 0, .int .u64 0]) ?_ 5 _ rfl; (with_reducible repeat (first | refine blk_drewN ?_ _ | refine blk_drew ?_ | refine blk_alloc ?_ _)); refine blk_put (cs := #[.int .i64 (wrap64 (Int.tdiv (wrap64 (rd l0 0)) 64)), .int .i64 (Int.tmod (wrap64 (Int.tdiv (wrap64 (rd l0 0)) 8)) 8), .int .i64 (Int.tmod (wrap64 (rd l0 0)) 8), .int .i64 (wrap64 (rd l0 1)), .int .i64 0, .int .i64 0, .int .u32 0, .int .u32 0, .int .u32 0, .int .u64 0, .int .u64 0, .int .u64 0, .int .u64 0]) ?_ 4 _ rfl; (with_reducible repeat (first | refine blk_drewN ?_ _ | refine blk_drew ?_ | refine blk_alloc ?_ _)); refine blk_put (cs := #[.int .i64 (wrap64 (Int.tdiv (wrap64 (rd l0 0)) 64)), .int .i64 (Int.tmod (wrap64 (Int.tdiv (wrap64 (rd l0 0)) 8)) 8), .int .i64 (Int.tmod (wrap64 (rd l0 0)) 8), .int .i64 0, .int .i64 0, .int .i64 0, .int .u32 0, .int .u32 0, .int .u32 0, .int .u64 0, .int .u64 0, .int .u64 0, .int .u64 0]) ?_ 3 _ rfl; (with_reducible repeat (first | refine blk_drewN ?_ _ | refine blk_drew ?_ | refine blk_alloc ?_ _)); refine blk_put (cs := #[.int .i64 (wrap64 (Int.tdiv (wrap64 (rd l0 0)) 64)), .int .i64 (Int.tmod (wrap64 (Int.tdiv (wrap64 (rd l0 0)) 8)) 8), .int .i64 0, .int .i64 0, .int .i64 0, .int .i64 0, .int .u32 0, .int .u32 0, .int .u32 0, .int .u64 0, .int .u64 0, .int .u64 0, .int .u64 0]) ?_ 2 _ rfl; (with_reducible repeat (first | refine blk_drewN ?_ _ | refine blk_drew ?_ | refine blk_alloc ?_ _)); refine blk_put (cs := #[.int .i64 (wrap64 (Int.tdiv (wrap64 (rd l0 0)) 64)), .int .i64 0, .int .i64 0, .int .i64 0, .int .i64 0, .int .i64 0, .int .u32 0, .int .u32 0, .int .u32 0, .int .u64 0, .int .u64 0, .int .u64 0, .int .u64 0]) ?_ 1 _ rfl; (with_reducible repeat (first | refine blk_drewN ?_ _ | refine blk_drew ?_ | refine blk_alloc ?_ _)); refine blk_put (cs := #[.int .i64 0, .int .i64 0, .int .i64 0, .int .i64 0, .int .i64 0, .int .i64 0, .int .u32 0, .int .u32 0, .int .u32 0, .int .u64 0, .int .u64 0, .int .u64 0, .int .u64 0]) ?_ 0 _ rfl; (with_reducible repeat (first | refine blk_drewN ?_ _ | refine blk_drew ?_ | refine blk_alloc ?_ _)); exact BK253.out⟩
                      have n2_ : Aside0 (Below w.heap.size w ((((((((((((((((((((w27.setCell ⟨gb253, 0, none⟩ (.int .i64 (wrap64 (Int.tdiv (wrap64 (rd l0 0)) 64)))).setCell ⟨gb253, 1, none⟩ (.int .i64 (Int.tmod (wrap64 (Int.tdiv (wrap64 (rd l0 0)) 8)) 8))).setCell ⟨gb253, 2, none⟩ (.int .i64 (Int.tmod (wrap64 (rd l0 0)) 8))).setCell ⟨gb253, 3, none⟩ (.int .i64 (wrap64 (rd l0 1)))).setCell ⟨gb253, 4, none⟩ (.int .i64 t250)).setCell ⟨gb253, 5, none⟩ (.int .i64 t252)).setCell ⟨gb253, 6, none⟩ (.int .u32 0)).setCell ⟨gb253, 7, none⟩ (.int .u32 0)).setCell ⟨gb253, 8, none⟩ (.int .u32 0)).setCell ⟨gb253, 9, none⟩ (.int .u64 0)).setCell ⟨gb253, 10, none⟩ (.int .u64 0)).setCell ⟨gb253, 11, none⟩ (.int .u64 0)).setCell ⟨gb253, 12, none⟩ (.int .u64 0)).setCell ⟨gb253, 6, none⟩ (.int .u32 ((t254) % 4294967296))).setCell ⟨gb253, 7, none⟩ (.int .u32 ((t255) % 4294967296))).setCell ⟨gb253, 8, none⟩ (.int .u32 ((t256) % 4294967296))).setCell ⟨gb253, 9, none⟩ (.int .u64 t257)).setCell ⟨gb253, 10, none⟩ (.int .u64 t258)).setCell ⟨gb253, 11, none⟩ (.int .u64 t259)).setCell ⟨gb253, 12, none⟩ (.int .u64 t260))) := ⟨by repeat (first | (with_reducible first | exact HB.out | apply below_alloc | apply pw_below_drewN | apply below_drew1 | refine below_set ?_ GE246.out | refine below_set ?_ GE253.out) | exact HB.out)⟩
                      (try clear BK246)
                      (try clear BK253)
                      (try clear HB)
                      generalize ((((((((((((((((((((w27.setCell ⟨gb253, 0, none⟩ (.int .i64 (wrap64 (Int.tdiv (wrap64 (rd l0 0)) 64)))).setCell ⟨gb253, 1, none⟩ (.int .i64 (Int.tmod (wrap64 (Int.tdiv (wrap64 (rd l0 0)) 8)) 8))).setCell ⟨gb253, 2, none⟩ (.int .i64 (Int.tmod (wrap64 (rd l0 0)) 8))).setCell ⟨gb253, 3, none⟩ (.int .i64 (wrap64 (rd l0 1)))).setCell ⟨gb253, 4, none⟩ (.int .i64 t250)).setCell ⟨gb253, 5, none⟩ (.int .i64 t252)).setCell ⟨gb253, 6, none⟩ (.int .u32 0)).setCell ⟨gb253, 7, none⟩ (.int .u32 0)).setCell ⟨gb253, 8, none⟩ (.int .u32 0)).setCell ⟨gb253, 9, none⟩ (.int .u64 0)).setCell ⟨gb253, 10, none⟩ (.int .u64 0)).setCell ⟨gb253, 11, none⟩ (.int .u64 0)).setCell ⟨gb253, 12, none⟩ (.int .u64 0)).setCell ⟨gb253, 6, none⟩ (.int .u32 ((t254) % 4294967296))).setCell ⟨gb253, 7, none⟩ (.int .u32 ((t255) % 4294967296))).setCell ⟨gb253, 8, none⟩ (.int .u32 ((t256) % 4294967296))).setCell ⟨gb253, 9, none⟩ (.int .u64 t257)).setCell ⟨gb253, 10, none⟩ (.int .u64 t258)).setCell ⟨gb253, 11, none⟩ (.int .u64 t259)).setCell ⟨gb253, 12, none⟩ (.int .u64 t260)) = w43 at n0_ n1_ n2_ ⊢
                      have BK246 := n0_
                      have BK253 := n1_
                      have HB := n2_
                      clear n0_ n1_ n2_
                      (try (rw [drewN_self w43]; generalize hq_ : World.drewN w43 _ = w43; have n0_ : Aside0 (w43.heap[gb246]? = some (.cells #[.int .i64 0, .int .i64 0, .int .i64 0, .int .i64 0, .int .i64 0, .int .i64 0, .int .u32 0, .int .u32 0, .int .u32 0, .int .u64 0, .int .u64 0, .int .u64 0, .int .u64 0] 25 (0, 0))) := ⟨by rw [← hq_]; exact (by (with_reducible repeat (first | refine blk_drewN ?_ _ | refine blk_drew ?_ | refine blk_alloc ?_ _)); exact BK246.out)⟩; have n1_ : Aside0 (w43.heap[gb253]? = some (.cells #[.int .i64 (wrap64 (Int.tdiv (wrap64 (rd l0 0)) 64)), .int .i64 (Int.tmod (wrap64 (Int.tdiv (wrap64 (rd l0 0)) 8)) 8), .int .i64 (Int.tmod (wrap64 (rd l0 0)) 8), .int .i64 (wrap64 (rd l0 1)), .int .i64 t250, .int .i64 t252, .int .u32 ((t254) % 4294967296), .int .u32 ((t255) % 4294967296), .int .u32 ((t256) % 4294967296), .int .u64 t257, .int .u64 t258, .int .u64 t259, .int .u64 t260] 25 (0, 0))) := ⟨by rw [← hq_]; exact (by (with_reducible repeat (first | refine blk_drewN ?_ _ | refine blk_drew ?_ | refine blk_alloc ?_ _)); exact BK253.out)⟩; have n2_ : Aside0 (Below w.heap.size w w43) := ⟨by rw [← hq_]; exact (by repeat (first | (with_reducible first | exact HB.out | apply below_alloc | apply pw_below_drewN | apply below_drew1 | refine below_set ?_ GE246.out | refine below_set ?_ GE253.out) | exact HB.out))⟩; clear BK246 BK253 HB hq_; have BK246 := n0_; have BK253 := n1_; have HB := n2_; clear n0_ n1_ n2_))
                      have n0_ := Aside0.mk (blk_drew BK246.out)
                      have n1_ := Aside0.mk (blk_drew BK253.out)
                      have n2_ := Aside0.mk (below_drew1 HB.out)
                      clear BK246
                      clear BK253
                      clear HB
                      have BK246 := n0_
                      have BK253 := n1_
                      have HB := n2_
                      clear n0_ n1_ n2_
                      obtain ⟨i045, hi045, _, hsz45, _⟩ := info_parts info5
                      obtain ⟨A45, hcut45, hA45, hC45⟩ := print_drop_of (P := Try.prog) (Value.int .u8) 0 26 5 .i64 Try.underlying26 hi045 hsz45 (some ad247) c0 l0 48 (by omega) (of_decide_eq_true (by first | (with_reducible assumption) | assumption)) HC0.out
                      have HR264 := Aside0.mk (Kd.C_of_reads (h1 := fun _ => rfl) (hA45 _ (Kd.reads_of_C HR0.out)))
                      have HC264 := Aside0.mk hC45
                      clear hA45 hC45 hi045 hsz45
                      refine start_ (n := 8) (S := fun w' => w'.cell? ⟨gb253, 0, none⟩ = some (.int .i64 (wrap64 (Int.tdiv (wrap64 (rd l0 0)) 64))) ∧ w'.cell? ⟨gb253, 1, none⟩ = some (.int .i64 (Int.tmod (wrap64 (Int.tdiv (wrap64 (rd l0 0)) 8)) 8)) ∧ w'.cell? ⟨gb253, 2, none⟩ = some (.int .i64 (Int.tmod (wrap64 (rd l0 0)) 8)) ∧ w'.cell? ⟨gb253, 3, none⟩ = some (.int .i64 (wrap64 (rd l0 1))) ∧ w'.cell? ⟨gb253, 4, none⟩ = some (.int .i64 t250) ∧ w'.cell? ⟨gb253, 5, none⟩ = some (.int .i64 t252) ∧ w'.cell? ⟨gb253, 6, none⟩ = some (.int .u32 ((t254) % 4294967296)) ∧ w'.cell? ⟨gb253, 7, none⟩ = some (.int .u32 ((t255) % 4294967296)) ∧ w'.cell? ⟨gb253, 8, none⟩ = some (.int .u32 ((t256) % 4294967296)) ∧ w'.cell? ⟨gb253, 9, none⟩ = some (.int .u64 t257) ∧ w'.cell? ⟨gb253, 10, none⟩ = some (.int .u64 t258) ∧ w'.cell? ⟨gb253, 11, none⟩ = some (.int .u64 t259) ∧ w'.cell? ⟨gb253, 12, none⟩ = some (.int .u64 t260)) (ds := []) #[false, false, false, false, false, false, false, false] (by kernel_rfl) rfl rfl ⟨(blk_cell BK253.out 0).trans rfl, (blk_cell BK253.out 1).trans rfl, (blk_cell BK253.out 2).trans rfl, (blk_cell BK253.out 3).trans rfl, (blk_cell BK253.out 4).trans rfl, (blk_cell BK253.out 5).trans rfl, (blk_cell BK253.out 6).trans rfl, (blk_cell BK253.out 7).trans rfl, (blk_cell BK253.out 8).trans rfl, (blk_cell BK253.out 9).trans rfl, (blk_cell BK253.out 10).trans rfl, (blk_cell BK253.out 11).trans rfl, (blk_cell BK253.out 12).trans rfl⟩ (fun hHeld => ?_); refine with_tabW timesyncref19_Decode.tab15 timesyncref19_Decode.bits15 (fun HT_ HW_ => ?_)
                      generalize w43.drew = w44 at BK246 BK253 HB HR264 hHeld ⊢
                      refine pure_ (i := 2) (N := some 70) (v := ?_) (a' := ?_) #[false, false, true, false, false, false, false, false] rfl rfl (any_of HT_.out (by kernel_rfl)) (fun _ _ _ h => h) (Or.inl ⟨by rfl, ?_⟩) ?_ ?_
                      rotate_left
                      · intro w'
                        go_simp
                        with_reducible rfl
                      rotate_left
                      · simp only [Act.put, List.setIfInBounds_toArray, List.set_cons_zero, List.set_cons_succ, i64_w, i32_w]
                        rfl
                      refine pure_ (i := 3) (N := some 71) (v := ?_) (a' := ?_) #[false, false, true, true, false, false, false, false] rfl rfl (any_of HT_.out (by kernel_rfl)) (fun _ _ _ h => h) (Or.inl ⟨by rfl, ?_⟩) ?_ ?_
                      rotate_left
                      · intro w'
                        go_simp
                        with_reducible rfl
                      rotate_left
                      · simp only [Act.put, List.setIfInBounds_toArray, List.set_cons_zero, List.set_cons_succ, i64_w, i32_w]
                        rfl
                      refine take_ (i := 0) (N := some 68) (v := ?_) (a' := ?_) #[true, false, true, true, false, false, false, false] rfl rfl (take_ofW HT_.out HW_.out (by kernel_rfl)) (fun _ _ _ h => h) (Or.inl ⟨by rfl, ?_⟩) hHeld ?_ ?_
                      rotate_left
                      · rintro w' ⟨s0, s1, s2, s3, s4, s5, s6, s7, s8, s9, s10, s11, s12⟩
                        go_simp
                        with_reducible rfl
                      rotate_left
                      · simp only [Act.put, List.setIfInBounds_toArray, List.set_cons_zero, List.set_cons_succ, i64_w, i32_w]
                        rfl
                      refine one_ (i := 1) (N := some 69) #[true, true, true, true, false, false, false, false] rfl rfl (one_of HT_.out (by kernel_rfl)) (by decide) (fun K hK => ?_)
                      refine Kd.R_lit_step (Kd.int .u8) _ 5 ?hg (N := 69) ?hd (xs := ([] : List Int)) (inner := []) (ok := fun _ => True) (okp := fun _ => True) ?hr ?hp (fun _ hk => hk) trivial (Below.refl _ _) (Nat.le_refl _) (by simp) ?_; (case hd => rfl); (case hg => rfl); (case hr => first | (go_simp; done) | (go_simp; rfl)); (case hp => exact (Reps.none _ _))
                      intro v262 w46 ho47 hb hg_ hnew_
                      clear hg_ hnew_
                      (first | rw [← Ny261.out] at ho47 | (simp only [Int.reduceToNat] at ho47; rw [← Ny261.out] at ho47))
                      have n0_ := Aside0.mk (Kd.R_lower ho47 (below_size (by repeat (first | (with_reducible first | exact HB.out | apply below_alloc | apply pw_below_drewN | apply below_drew1 | refine below_set ?_ GE246.out | refine below_set ?_ GE253.out) | exact HB.out))))
                      have n1_ := Aside0.mk (blk_below (g := gb246) (o := .cells #[.int .i64 0, .int .i64 0, .int .i64 0, .int .i64 0, .int .i64 0, .int .i64 0, .int .u32 0, .int .u32 0, .int .u32 0, .int .u64 0, .int .u64 0, .int .u64 0, .int .u64 0] 25 (0, 0)) (by (with_reducible repeat (first | refine blk_drewN ?_ _ | refine blk_drew ?_ | refine blk_alloc ?_ _)); exact BK246.out) hb)
                      have n2_ := Aside0.mk (blk_below (g := gb253) (o := .cells #[.int .i64 (wrap64 (Int.tdiv (wrap64 (rd l0 0)) 64)), .int .i64 (Int.tmod (wrap64 (Int.tdiv (wrap64 (rd l0 0)) 8)) 8), .int .i64 (Int.tmod (wrap64 (rd l0 0)) 8), .int .i64 (wrap64 (rd l0 1)), .int .i64 t250, .int .i64 t252, .int .u32 ((t254) % 4294967296), .int .u32 ((t255) % 4294967296), .int .u32 ((t256) % 4294967296), .int .u64 t257, .int .u64 t258, .int .u64 t259, .int .u64 t260] 25 (0, 0)) (by (with_reducible repeat (first | refine blk_drewN ?_ _ | refine blk_drew ?_ | refine blk_alloc ?_ _)); exact BK253.out) hb)
                      have n3_ := Aside0.mk (below_step (by repeat (first | (with_reducible first | exact HB.out | apply below_alloc | apply pw_below_drewN | apply below_drew1 | refine below_set ?_ GE246.out | refine below_set ?_ GE253.out) | exact HB.out)) hb)
                      clear BK246
                      clear BK253
                      clear HB
                      have HO263 := n0_
                      have BK246 := n1_
                      have BK253 := n2_
                      have HB := n3_
                      clear n0_ n1_ n2_ n3_
                      clear hb ho47
                      refine hK.out _ _ ⟨(blk_cell BK253.out 0).trans rfl, (blk_cell BK253.out 1).trans rfl, (blk_cell BK253.out 2).trans rfl, (blk_cell BK253.out 3).trans rfl, (blk_cell BK253.out 4).trans rfl, (blk_cell BK253.out 5).trans rfl, (blk_cell BK253.out 6).trans rfl, (blk_cell BK253.out 7).trans rfl, (blk_cell BK253.out 8).trans rfl, (blk_cell BK253.out 9).trans rfl, (blk_cell BK253.out 10).trans rfl, (blk_cell BK253.out 11).trans rfl, (blk_cell BK253.out 12).trans rfl⟩ (fun hHeld => ?_)
                      clear hK K
                      refine norm_ (a' := ?_) ?_ ?_
                      rotate_left
                      · show Act.put _ (some 69) _ = _
                        simp only [Act.put, List.setIfInBounds_toArray, List.set_cons_zero, List.set_cons_succ, i64_w, i32_w]
                        rfl
                      refine one_ (i := 4) (N := some 72) #[true, true, true, true, true, false, false, false] rfl rfl (one_of HT_.out (by kernel_rfl)) (by decide) (fun K hK => ?_)
                      refine Kd.R_append_rows_step (Kd.int .u8) (w0 := w) w.heap.size (by rfl) (.tmp 69) (.tmp 71) 26 5 (.int .u8 0) 1 rfl Try.underlying26 info5 rfl (by decide) (by omega) v262 y261 (l0.drop 48) _ _ _ (fun _ => True) (fun _ => False) rfl rfl ?aO ?aR (fun _ _ h => h) (fun _ h => h.elim) ?aF ?aB ?aS ?aL ?_
                      (case aR => first | (rw [← show (l0.drop 48).length = (l0.length - 48) from List.length_drop]; repeat (first | exact (Kd.C_below HR264.out HB.out) | (with_reducible refine Kd.C_alloc ?_ _) | (with_reducible refine Kd.C_drewN ?_ _) | (with_reducible refine Kd.C_drew ?_))) | (repeat (first | exact (Kd.C_below HR264.out HB.out) | (with_reducible refine Kd.C_alloc ?_ _) | (with_reducible refine Kd.C_drewN ?_ _) | (with_reducible refine Kd.C_drew ?_))))
                      (case aB => exact (by repeat (first | (with_reducible first | exact HB.out | apply below_alloc | apply pw_below_drewN | apply below_drew1 | refine below_set ?_ GE246.out | refine below_set ?_ GE253.out) | exact HB.out)))
                      (case aF => exact (fun _ _ => trivial))
                      (case aO => exact (by (with_reducible repeat (first | apply Kd.R_alloc | apply Kd.R_drewN | apply Kd.R_drew)); exact HO263.out))
                      (case aS => exact (below_size (by repeat (first | (with_reducible first | exact HB.out | apply below_alloc | apply pw_below_drewN | apply below_drew1 | refine below_set ?_ GE246.out | refine below_set ?_ GE253.out) | exact HB.out))))
                      (case aL => have := LMc24.out; have hlx_ := (show (l0.drop 48).length = (l0.length - 48) from List.length_drop); omega)
                      intro v266 w48 ho hb hg hat
                      rw [← Ny265.out] at ho
                      have n0_ := Aside0.mk (blk_grown (g := gb246) (o := .cells #[.int .i64 0, .int .i64 0, .int .i64 0, .int .i64 0, .int .i64 0, .int .i64 0, .int .u32 0, .int .u32 0, .int .u32 0, .int .u64 0, .int .u64 0, .int .u64 0, .int .u64 0] 25 (0, 0)) (by (with_reducible repeat (first | refine blk_drewN ?_ _ | refine blk_drew ?_ | refine blk_alloc ?_ _)); exact BK246.out) hg (Kd.R_ne HO263.out BK246.out (by decide)))
                      have n1_ := Aside0.mk (blk_grown (g := gb253) (o := .cells #[.int .i64 (wrap64 (Int.tdiv (wrap64 (rd l0 0)) 64)), .int .i64 (Int.tmod (wrap64 (Int.tdiv (wrap64 (rd l0 0)) 8)) 8), .int .i64 (Int.tmod (wrap64 (rd l0 0)) 8), .int .i64 (wrap64 (rd l0 1)), .int .i64 t250, .int .i64 t252, .int .u32 ((t254) % 4294967296), .int .u32 ((t255) % 4294967296), .int .u32 ((t256) % 4294967296), .int .u64 t257, .int .u64 t258, .int .u64 t259, .int .u64 t260] 25 (0, 0)) (by (with_reducible repeat (first | refine blk_drewN ?_ _ | refine blk_drew ?_ | refine blk_alloc ?_ _)); exact BK253.out) hg (Kd.R_ne HO263.out BK253.out (by decide)))
                      have n2_ := Aside0.mk (hb)
                      have n3_ := Aside0.mk (ho)
                      clear BK246
                      clear BK253
                      clear HB
                      clear HO263
                      have BK246 := n0_
                      have BK253 := n1_
                      have HB := n2_
                      have HO267 := n3_
                      clear n0_ n1_ n2_ n3_
                      clear ho hb hg hat
                      refine hK.out _ _ ⟨(blk_cell BK253.out 0).trans rfl, (blk_cell BK253.out 1).trans rfl, (blk_cell BK253.out 2).trans rfl, (blk_cell BK253.out 3).trans rfl, (blk_cell BK253.out 4).trans rfl, (blk_cell BK253.out 5).trans rfl, (blk_cell BK253.out 6).trans rfl, (blk_cell BK253.out 7).trans rfl, (blk_cell BK253.out 8).trans rfl, (blk_cell BK253.out 9).trans rfl, (blk_cell BK253.out 10).trans rfl, (blk_cell BK253.out 11).trans rfl, (blk_cell BK253.out 12).trans rfl⟩ (fun hHeld => ?_)
                      clear hK K
                      refine norm_ (a' := ?_) ?_ ?_
                      rotate_left
                      · show Act.put _ (some 72) _ = _
                        simp only [Act.put, List.setIfInBounds_toArray, List.set_cons_zero, List.set_cons_succ, i64_w, i32_w]
                        rfl
                      refine one_ (i := 5) (N := none) #[true, true, true, true, true, true, false, false] rfl rfl (one_of HT_.out (by kernel_rfl)) (by decide) (fun K hK => ?_)
                      have hs49 : w48.cell? ⟨gb246, 0, none⟩ = some (.int .i64 0) := (blk_cell BK246.out 0).trans rfl
                      have hfs49 := blk_frozen BK246.out 0
                      have hns49_1 := NB253_246.out
                      have hms49_1 := NB246_253.out
                      have hs50 : w48.cell? ⟨gb246, 1, none⟩ = some (.int .i64 0) := (blk_cell BK246.out 1).trans rfl
                      have hfs50 := blk_frozen BK246.out 1
                      have hns50_1 := NB253_246.out
                      have hms50_1 := NB246_253.out
                      have hs51 : w48.cell? ⟨gb246, 2, none⟩ = some (.int .i64 0) := (blk_cell BK246.out 2).trans rfl
                      have hfs51 := blk_frozen BK246.out 2
                      have hns51_1 := NB253_246.out
                      have hms51_1 := NB246_253.out
                      have hs52 : w48.cell? ⟨gb246, 3, none⟩ = some (.int .i64 0) := (blk_cell BK246.out 3).trans rfl
                      have hfs52 := blk_frozen BK246.out 3
                      have hns52_1 := NB253_246.out
                      have hms52_1 := NB246_253.out
                      have hs53 : w48.cell? ⟨gb246, 4, none⟩ = some (.int .i64 0) := (blk_cell BK246.out 4).trans rfl
                      have hfs53 := blk_frozen BK246.out 4
                      have hns53_1 := NB253_246.out
                      have hms53_1 := NB246_253.out
                      have hs54 : w48.cell? ⟨gb246, 5, none⟩ = some (.int .i64 0) := (blk_cell BK246.out 5).trans rfl
                      have hfs54 := blk_frozen BK246.out 5
                      have hns54_1 := NB253_246.out
                      have hms54_1 := NB246_253.out
                      have hs55 : w48.cell? ⟨gb246, 6, none⟩ = some (.int .u32 0) := (blk_cell BK246.out 6).trans rfl
                      have hfs55 := blk_frozen BK246.out 6
                      have hns55_1 := NB253_246.out
                      have hms55_1 := NB246_253.out
                      have hs56 : w48.cell? ⟨gb246, 7, none⟩ = some (.int .u32 0) := (blk_cell BK246.out 7).trans rfl
                      have hfs56 := blk_frozen BK246.out 7
                      have hns56_1 := NB253_246.out
                      have hms56_1 := NB246_253.out
                      have hs57 : w48.cell? ⟨gb246, 8, none⟩ = some (.int .u32 0) := (blk_cell BK246.out 8).trans rfl
                      have hfs57 := blk_frozen BK246.out 8
                      have hns57_1 := NB253_246.out
                      have hms57_1 := NB246_253.out
                      have hs58 : w48.cell? ⟨gb246, 9, none⟩ = some (.int .u64 0) := (blk_cell BK246.out 9).trans rfl
                      have hfs58 := blk_frozen BK246.out 9
                      have hns58_1 := NB253_246.out
                      have hms58_1 := NB246_253.out
                      have hs59 : w48.cell? ⟨gb246, 10, none⟩ = some (.int .u64 0) := (blk_cell BK246.out 10).trans rfl
                      have hfs59 := blk_frozen BK246.out 10
                      have hns59_1 := NB253_246.out
                      have hms59_1 := NB246_253.out
                      have hs60 : w48.cell? ⟨gb246, 11, none⟩ = some (.int .u64 0) := (blk_cell BK246.out 11).trans rfl
                      have hfs60 := blk_frozen BK246.out 11
                      have hns60_1 := NB253_246.out
                      have hms60_1 := NB246_253.out
                      have hs61 : w48.cell? ⟨gb246, 12, none⟩ = some (.int .u64 0) := (blk_cell BK246.out 12).trans rfl
                      have hfs61 := blk_frozen BK246.out 12
                      have hns61_1 := NB253_246.out
                      have hms61_1 := NB246_253.out
                      refine skip_ (w1 := ?_) (by rfl) rfl ?_ ?_
                      rotate_left
                      · go_simp
                        rfl
                      refine hK.out _ _ ⟨((cell_far (p := ⟨gb246, _, none⟩) NB253_246.out _).trans (((cell_far (p := ⟨gb246, _, none⟩) NB253_246.out _).trans (((cell_far (p := ⟨gb246, _, none⟩) NB253_246.out _).trans (((cell_far (p := ⟨gb246, _, none⟩) NB253_246.out _).trans (((cell_far (p := ⟨gb246, _, none⟩) NB253_246.out _).trans (((cell_far (p := ⟨gb246, _, none⟩) NB253_246.out _).trans (((cell_far (p := ⟨gb246, _, none⟩) NB253_246.out _).trans (((cell_far (p := ⟨gb246, _, none⟩) NB253_246.out _).trans (((cell_far (p := ⟨gb246, _, none⟩) NB253_246.out _).trans (((cell_far (p := ⟨gb246, _, none⟩) NB253_246.out _).trans (((cell_far (p := ⟨gb246, _, none⟩) NB253_246.out _).trans (((cell_far (p := ⟨gb246, _, none⟩) NB253_246.out _).trans (((cell_far (p := ⟨gb246, _, none⟩) NB253_246.out _).trans (hHeld.1)))))))))))))))))))))))))), ((cell_far (p := ⟨gb246, _, none⟩) NB253_246.out _).trans (((cell_far (p := ⟨gb246, _, none⟩) NB253_246.out _).trans (((cell_far (p := ⟨gb246, _, none⟩) NB253_246.out _).trans (((cell_far (p := ⟨gb246, _, none⟩) NB253_246.out _).trans (((cell_far (p := ⟨gb246, _, none⟩) NB253_246.out _).trans (((cell_far (p := ⟨gb246, _, none⟩) NB253_246.out _).trans (((cell_far (p := ⟨gb246, _, none⟩) NB253_246.out _).trans (((cell_far (p := ⟨gb246, _, none⟩) NB253_246.out _).trans (((cell_far (p := ⟨gb246, _, none⟩) NB253_246.out _).trans (((cell_far (p := ⟨gb246, _, none⟩) NB253_246.out _).trans (((cell_far (p := ⟨gb246, _, none⟩) NB253_246.out _).trans (((cell_far (p := ⟨gb246, _, none⟩) NB253_246.out _).trans (((cell_far (p := ⟨gb246, _, none⟩) NB253_246.out _).trans (hHeld.2.1)))))))))))))))))))))))))), ((cell_far (p := ⟨gb246, _, none⟩) NB253_246.out _).trans (((cell_far (p := ⟨gb246, _, none⟩) NB253_246.out _).trans (((cell_far (p := ⟨gb246, _, none⟩) NB253_246.out _).trans (((cell_far (p := ⟨gb246, _, none⟩) NB253_246.out _).trans (((cell_far (p := ⟨gb246, _, none⟩) NB253_246.out _).trans (((cell_far (p := ⟨gb246, _, none⟩) NB253_246.out _).trans (((cell_far (p := ⟨gb246, _, none⟩) NB253_246.out _).trans (((cell_far (p := ⟨gb246, _, none⟩) NB253_246.out _).trans (((cell_far (p := ⟨gb246, _, none⟩) NB253_246.out _).trans (((cell_far (p := ⟨gb246, _, none⟩) NB253_246.out _).trans (((cell_far (p := ⟨gb246, _, none⟩) NB253_246.out _).trans (((cell_far (p := ⟨gb246, _, none⟩) NB253_246.out _).trans (((cell_far (p := ⟨gb246, _, none⟩) NB253_246.out _).trans (hHeld.2.2.1)))))))))))))))))))))))))), ((cell_far (p := ⟨gb246, _, none⟩) NB253_246.out _).trans (((cell_far (p := ⟨gb246, _, none⟩) NB253_246.out _).trans (((cell_far (p := ⟨gb246, _, none⟩) NB253_246.out _).trans (((cell_far (p := ⟨gb246, _, none⟩) NB253_246.out _).trans (((cell_far (p := ⟨gb246, _, none⟩) NB253_246.out _).trans (((cell_far (p := ⟨gb246, _, none⟩) NB253_246.out _).trans (((cell_far (p := ⟨gb246, _, none⟩) NB253_246.out _).trans (((cell_far (p := ⟨gb246, _, none⟩) NB253_246.out _).trans (((cell_far (p := ⟨gb246, _, none⟩) NB253_246.out _).trans (((cell_far (p := ⟨gb246, _, none⟩) NB253_246.out _).trans (((cell_far (p := ⟨gb246, _, none⟩) NB253_246.out _).trans (((cell_far (p := ⟨gb246, _, none⟩) NB253_246.out _).trans (((cell_far (p := ⟨gb246, _, none⟩) NB253_246.out _).trans (hHeld.2.2.2.1)))))))))))))))))))))))))), ((cell_far (p := ⟨gb246, _, none⟩) NB253_246.out _).trans (((cell_far (p := ⟨gb246, _, none⟩) NB253_246.out _).trans (((cell_far (p := ⟨gb246, _, none⟩) NB253_246.out _).trans (((cell_far (p := ⟨gb246, _, none⟩) NB253_246.out _).trans (((cell_far (p := ⟨gb246, _, none⟩) NB253_246.out _).trans (((cell_far (p := ⟨gb246, _, none⟩) NB253_246.out _).trans (((cell_far (p := ⟨gb246, _, none⟩) NB253_246.out _).trans (((cell_far (p := ⟨gb246, _, none⟩) NB253_246.out _).trans (((cell_far (p := ⟨gb246, _, none⟩) NB253_246.out _).trans (((cell_far (p := ⟨gb246, _, none⟩) NB253_246.out _).trans (((cell_far (p := ⟨gb246, _, none⟩) NB253_246.out _).trans (((cell_far (p := ⟨gb246, _, none⟩) NB253_246.out _).trans (((cell_far (p := ⟨gb246, _, none⟩) NB253_246.out _).trans (hHeld.2.2.2.2.1)))))))))))))))))))))))))), ((cell_far (p := ⟨gb246, _, none⟩) NB253_246.out _).trans (((cell_far (p := ⟨gb246, _, none⟩) NB253_246.out _).trans (((cell_far (p := ⟨gb246, _, none⟩) NB253_246.out _).trans (((cell_far (p := ⟨gb246, _, none⟩) NB253_246.out _).trans (((cell_far (p := ⟨gb246, _, none⟩) NB253_246.out _).trans (((cell_far (p := ⟨gb246, _, none⟩) NB253_246.out _).trans (((cell_far (p := ⟨gb246, _, none⟩) NB253_246.out _).trans (((cell_far (p := ⟨gb246, _, none⟩) NB253_246.out _).trans (((cell_far (p := ⟨gb246, _, none⟩) NB253_246.out _).trans (((cell_far (p := ⟨gb246, _, none⟩) NB253_246.out _).trans (((cell_far (p := ⟨gb246, _, none⟩) NB253_246.out _).trans (((cell_far (p := ⟨gb246, _, none⟩) NB253_246.out _).trans (((cell_far (p := ⟨gb246, _, none⟩) NB253_246.out _).trans (hHeld.2.2.2.2.2.1)))))))))))))))))))))))))), ((cell_far (p := ⟨gb246, _, none⟩) NB253_246.out _).trans (((cell_far (p := ⟨gb246, _, none⟩) NB253_246.out _).trans (((cell_far (p := ⟨gb246, _, none⟩) NB253_246.out _).trans (((cell_far (p := ⟨gb246, _, none⟩) NB253_246.out _).trans (((cell_far (p := ⟨gb246, _, none⟩) NB253_246.out _).trans (((cell_far (p := ⟨gb246, _, none⟩) NB253_246.out _).trans (((cell_far (p := ⟨gb246, _, none⟩) NB253_246.out _).trans (((cell_far (p := ⟨gb246, _, none⟩) NB253_246.out _).trans (((cell_far (p := ⟨gb246, _, none⟩) NB253_246.out _).trans (((cell_far (p := ⟨gb246, _, none⟩) NB253_246.out _).trans (((cell_far (p := ⟨gb246, _, none⟩) NB253_246.out _).trans (((cell_far (p := ⟨gb246, _, none⟩) NB253_246.out _).trans (((cell_far (p := ⟨gb246, _, none⟩) NB253_246.out _).trans (hHeld.2.2.2.2.2.2.1)))))))))))))))))))))))))), ((cell_far (p := ⟨gb246, _, none⟩) NB253_246.out _).trans (((cell_far (p := ⟨gb246, _, none⟩) NB253_246.out _).trans (((cell_far (p := ⟨gb246, _, none⟩) NB253_246.out _).trans (((cell_far (p := ⟨gb246, _, none⟩) NB253_246.out _).trans (((cell_far (p := ⟨gb246, _, none⟩) NB253_246.out _).trans (((cell_far (p := ⟨gb246, _, none⟩) NB253_246.out _).trans (((cell_far (p := ⟨gb246, _, none⟩) NB253_246.out _).trans (((cell_far (p := ⟨gb246, _, none⟩) NB253_246.out _).trans (((cell_far (p := ⟨gb246, _, none⟩) NB253_246.out _).trans (((cell_far (p := ⟨gb246, _, none⟩) NB253_246.out _).trans (((cell_far (p := ⟨gb246, _, none⟩) NB253_246.out _).trans (((cell_far (p := ⟨gb246, _, none⟩) NB253_246.out _).trans (((cell_far (p := ⟨gb246, _, none⟩) NB253_246.out _).trans (hHeld.2.2.2.2.2.2.2.1)))))))))))))))))))))))))), ((cell_far (p := ⟨gb246, _, none⟩) NB253_246.out _).trans (((cell_far (p := ⟨gb246, _, none⟩) NB253_246.out _).trans (((cell_far (p := ⟨gb246, _, none⟩) NB253_246.out _).trans (((cell_far (p := ⟨gb246, _, none⟩) NB253_246.out _).trans (((cell_far (p := ⟨gb246, _, none⟩) NB253_246.out _).trans (((cell_far (p := ⟨gb246, _, none⟩) NB253_246.out _).trans (((cell_far (p := ⟨gb246, _, none⟩) NB253_246.out _).trans (((cell_far (p := ⟨gb246, _, none⟩) NB253_246.out _).trans (((cell_far (p := ⟨gb246, _, none⟩) NB253_246.out _).trans (((cell_far (p := ⟨gb246, _, none⟩) NB253_246.out _).trans (((cell_far (p := ⟨gb246, _, none⟩) NB253_246.out _).trans (((cell_far (p := ⟨gb246, _, none⟩) NB253_246.out _).trans (((cell_far (p := ⟨gb246, _, none⟩) NB253_246.out _).trans (hHeld.2.2.2.2.2.2.2.2.1)))))))))))))))))))))))))), ((cell_far (p := ⟨gb246, _, none⟩) NB253_246.out _).trans (((cell_far (p := ⟨gb246, _, none⟩) NB253_246.out _).trans (((cell_far (p := ⟨gb246, _, none⟩) NB253_246.out _).trans (((cell_far (p := ⟨gb246, _, none⟩) NB253_246.out _).trans (((cell_far (p := ⟨gb246, _, none⟩) NB253_246.out _).trans (((cell_far (p := ⟨gb246, _, none⟩) NB253_246.out _).trans (((cell_far (p := ⟨gb246, _, none⟩) NB253_246.out _).trans (((cell_far (p := ⟨gb246, _, none⟩) NB253_246.out _).trans (((cell_far (p := ⟨gb246, _, none⟩) NB253_246.out _).trans (((cell_far (p := ⟨gb246, _, none⟩) NB253_246.out _).trans (((cell_far (p := ⟨gb246, _, none⟩) NB253_246.out _).trans (((cell_far (p := ⟨gb246, _, none⟩) NB253_246.out _).trans (((cell_far (p := ⟨gb246, _, none⟩) NB253_246.out _).trans (hHeld.2.2.2.2.2.2.2.2.2.1)))))))))))))))))))))))))), ((cell_far (p := ⟨gb246, _, none⟩) NB253_246.out _).trans (((cell_far (p := ⟨gb246, _, none⟩) NB253_246.out _).trans (((cell_far (p := ⟨gb246, _, none⟩) NB253_246.out _).trans (((cell_far (p := ⟨gb246, _, none⟩) NB253_246.out _).trans (((cell_far (p := ⟨gb246, _, none⟩) NB253_246.out _).trans (((cell_far (p := ⟨gb246, _, none⟩) NB253_246.out _).trans (((cell_far (p := ⟨gb246, _, none⟩) NB253_246.out _).trans (((cell_far (p := ⟨gb246, _, none⟩) NB253_246.out _).trans (((cell_far (p := ⟨gb246, _, none⟩) NB253_246.out _).trans (((cell_far (p := ⟨gb246, _, none⟩) NB253_246.out _).trans (((cell_far (p := ⟨gb246, _, none⟩) NB253_246.out _).trans (((cell_far (p := ⟨gb246, _, none⟩) NB253_246.out _).trans (((cell_far (p := ⟨gb246, _, none⟩) NB253_246.out _).trans (hHeld.2.2.2.2.2.2.2.2.2.2.1)))))))))))))))))))))))))), ((cell_far (p := ⟨gb246, _, none⟩) NB253_246.out _).trans (((cell_far (p := ⟨gb246, _, none⟩) NB253_246.out _).trans (((cell_far (p := ⟨gb246, _, none⟩) NB253_246.out _).trans (((cell_far (p := ⟨gb246, _, none⟩) NB253_246.out _).trans (((cell_far (p := ⟨gb246, _, none⟩) NB253_246.out _).trans (((cell_far (p := ⟨gb246, _, none⟩) NB253_246.out _).trans (((cell_far (p := ⟨gb246, _, none⟩) NB253_246.out _).trans (((cell_far (p := ⟨gb246, _, none⟩) NB253_246.out _).trans (((cell_far (p := ⟨gb246, _, none⟩) NB253_246.out _).trans (((cell_far (p := ⟨gb246, _, none⟩) NB253_246.out _).trans (((cell_far (p := ⟨gb246, _, none⟩) NB253_246.out _).trans (((cell_far (p := ⟨gb246, _, none⟩) NB253_246.out _).trans (((cell_far (p := ⟨gb246, _, none⟩) NB253_246.out _).trans (hHeld.2.2.2.2.2.2.2.2.2.2.2.1)))))))))))))))))))))))))), ((cell_far (p := ⟨gb246, _, none⟩) NB253_246.out _).trans (((cell_far (p := ⟨gb246, _, none⟩) NB253_246.out _).trans (((cell_far (p := ⟨gb246, _, none⟩) NB253_246.out _).trans (((cell_far (p := ⟨gb246, _, none⟩) NB253_246.out _).trans (((cell_far (p := ⟨gb246, _, none⟩) NB253_246.out _).trans (((cell_far (p := ⟨gb246, _, none⟩) NB253_246.out _).trans (((cell_far (p := ⟨gb246, _, none⟩) NB253_246.out _).trans (((cell_far (p := ⟨gb246, _, none⟩) NB253_246.out _).trans (((cell_far (p := ⟨gb246, _, none⟩) NB253_246.out _).trans (((cell_far (p := ⟨gb246, _, none⟩) NB253_246.out _).trans (((cell_far (p := ⟨gb246, _, none⟩) NB253_246.out _).trans (((cell_far (p := ⟨gb246, _, none⟩) NB253_246.out _).trans (((cell_far (p := ⟨gb246, _, none⟩) NB253_246.out _).trans (hHeld.2.2.2.2.2.2.2.2.2.2.2.2))))))))))))))))))))))))))⟩ (fun hHeld => ?_)
                      clear hK K
                      refine pure_ (i := 6) (N := some 3) (v := ?_) (a' := ?_) #[true, true, true, true, true, true, true, false] rfl rfl (any_of HT_.out (by kernel_rfl)) (fun _ _ _ h => h) (Or.inl ⟨by rfl, ?_⟩) ?_ ?_
                      rotate_left
                      · intro w'
                        go_simp
                        with_reducible rfl
                      rotate_left
                      · simp only [Act.put, List.setIfInBounds_toArray, List.set_cons_zero, List.set_cons_succ, i64_w, i32_w]
                        rfl
                      refine pure_ (i := 7) (N := some 4) (v := ?_) (a' := ?_) #[true, true, true, true, true, true, true, true] rfl rfl (any_of HT_.out (by kernel_rfl)) (fun _ _ _ h => h) (Or.inl ⟨by rfl, ?_⟩) ?_ ?_
                      rotate_left
                      · intro w'
                        go_simp
                        with_reducible rfl
                      rotate_left
                      · simp only [Act.put, List.setIfInBounds_toArray, List.set_cons_zero, List.set_cons_succ, i64_w, i32_w]
                        rfl
                      refine done_ (done_of HT_.out (by kernel_rfl)) ?_
                      try go_wp2
                      refine bodyPost_ret (results_ctt rfl _ _ gb246 25 #[.int .i64 (wrap64 (Int.tdiv (wrap64 (rd l0 0)) 64)), .int .i64 (Int.tmod (wrap64 (Int.tdiv (wrap64 (rd l0 0)) 8)) 8), .int .i64 (Int.tmod (wrap64 (rd l0 0)) 8), .int .i64 (wrap64 (rd l0 1)), .int .i64 t250, .int .i64 t252, .int .u32 ((t254) % 4294967296), .int .u32 ((t255) % 4294967296), .int .u32 ((t256) % 4294967296), .int .u64 t257, .int .u64 t258, .int .u64 t259, .int .u64 t260] (0, 0) _ rfl (by (with_reducible repeat (first | refine blk_drewN ?_ _ | refine blk_drew ?_ | refine blk_alloc ?_ _)); refine blk_put (cs := #[.int .i64 (wrap64 (Int.tdiv (wrap64 (rd l0 0)) 64)), .int .i64 (Int.tmod (wrap64 (Int.tdiv (wrap64 (rd l0 0)) 8)) 8), .int .i64 (Int.tmod (wrap64 (rd l0 0)) 8), .int .i64 (wrap64 (rd l0 1)), .int .i64 t250, .int .i64 t252, .int .u32 ((t254) % 4294967296), .int .u32 ((t255) % 4294967296), .int .u32 ((t256) % 4294967296), .int .u64 t257, .int .u64 t258, .int .u64 t259, .int .u64 0]) ?_ 12 _ rfl; (with_reducible repeat (first | refine blk_drewN ?_ _ | refine blk_drew ?_ | refine blk_alloc ?_ _)); refine blk_put (cs := #[.int .i64 (wrap64 (Int.tdiv (wrap64 (rd l0 0)) 64)), .int .i64 (Int.tmod (wrap64 (Int.tdiv (wrap64 (rd l0 0)) 8)) 8), .int .i64 (Int.tmod (wrap64 (rd l0 0)) 8), .int .i64 (wrap64 (rd l0 1)), .int .i64 t250, .int .i64 t252, .int .u32 ((t254) % 4294967296), .int .u32 ((t255) % 4294967296), .int .u32 ((t256) % 4294967296), .int .u64 t257, .int .u64 t258, .int .u64 0, .int .u64 0]) ?_ 11 _ rfl; (with_reducible repeat (first | refine blk_drewN ?_ _ | refine blk_drew ?_ | refine blk_alloc ?_ _)); refine blk_put (cs := #[.int .i64 (wrap64 (Int.tdiv (wrap64 (rd l0 0)) 64)), .int .i64 (Int.tmod (wrap64 (Int.tdiv (wrap64 (rd l0 0)) 8)) 8), .int .i64 (Int.tmod (wrap64 (rd l0 0)) 8), .int .i64 (wrap64 (rd l0 1)), .int .i64 t250, .int .i64 t252, .int .u32 ((t254) % 4294967296), .int .u32 ((t255) % 4294967296), .int .u32 ((t256) % 4294967296), .int .u64 t257, .int .u64 0, .int .u64 0, .int .u64 0]) ?_ 10 _ rfl; (with_reducible repeat (first | refine blk_drewN ?_ _ | refine blk_drew ?_ | refine blk_alloc ?_ _)); refine blk_put (cs := #[.int .i64 (wrap64 (Int.tdiv (wrap64 (rd l0 0)) 64)), .int .i64 (Int.tmod (wrap64 (Int.tdiv (wrap64 (rd l0 0)) 8)) 8), .int .i64 (Int.tmod (wrap64 (rd l0 0)) 8), .int .i64 (wrap64 (rd l0 1)), .int .i64 t250, .int .i64 t252, .int .u32 ((t254) % 4294967296), .int .u32 ((t255) % 4294967296), .int .u32 ((t256) % 4294967296), .int .u64 0, .int .u64 0, .int .u64 0, .int .u64 0]) ?_ 9 _ rfl; (with_reducible repeat (first | refine blk_drewN ?_ _ | refine blk_drew ?_ | refine blk_alloc ?_ _)); refine blk_put (cs := #[.int .i64 (wrap64 (Int.tdiv (wrap64 (rd l0 0)) 64)), .int .i64 (Int.tmod (wrap64 (Int.tdiv (wrap64 (rd l0 0)) 8)) 8), .int .i64 (Int.tmod (wrap64 (rd l0 0)) 8), .int .i64 (wrap64 (rd l0 1)), .int .i64 t250, .int .i64 t252, .int .u32 ((t254) % 4294967296), .int .u32 ((t255) % 4294967296), .int .u32 0, .int .u64 0, .int .u64 0, .int .u64 0, .int .u64 0]) ?_ 8 _ rfl; (with_reducible repeat (first | refine blk_drewN ?_ _ | refine blk_drew ?_ | refine blk_alloc ?_ _)); refine blk_put (cs := #[.int .i64 (wrap64 (Int.tdiv (wrap64 (rd l0 0)) 64)), .int .i64 (Int.tmod (wrap64 (Int.tdiv (wrap64 (rd l0 0)) 8)) 8), .int .i64 (Int.tmod (wrap64 (rd l0 0)) 8), .int .i64 (wrap64 (rd l0 1)), .int .i64 t250, .int .i64 t252, .int .u32 ((t254) % 4294967296), .int .u32 0, .int .u32 0, .int .u64 0, .int .u64 0, .int .u64 0, .int .u64 0]) ?_ 7 _ rfl; (with_reducible repeat (first | refine blk_drewN ?_ _ | refine blk_drew ?_ | refine blk_alloc ?_ _)); refine blk_put (cs := #[.int .i64 (wrap64 (Int.tdiv (wrap64 (rd l0 0)) 64)), .int .i64 (Int.tmod (wrap64 (Int.tdiv (wrap64 (rd l0 0)) 8)) 8), .int .i64 (Int.tmod (wrap64 (rd l0 0)) 8), .int .i64 (wrap64 (rd l0 1)), .int .i64 t250, .int .i64 t252, .int .u32 0, .int .u32 0, .int .u32 0, .int .u64 0, .int .u64 0, .int .u64 0, .int .u64 0]) ?_ 6 _ rfl; (with_reducible repeat (first | refine blk_drewN ?_ _ | refine blk_drew ?_ | refine blk_alloc ?_ _)); refine blk_put (cs := #[.int .i64 (wrap64 (Int.tdiv (wrap64 (rd l0 0)) 64)), .int .i64 (Int.tmod (wrap64 (Int.tdiv (wrap64 (rd l0 0)) 8)) 8), .int .i64 (Int.tmod (wrap64 (rd l0 0)) 8), .int .i64 (wrap64 (rd l0 1)), .int .i64 t250, .int .i64 0, .int .u32 0, .int .u32 0, .int .u32 0, .int .u64 0, .int .u64 0, .int .u64 0, .int .u64 0]) ?_ 5 _ rfl; (with_reducible repeat (first | refine blk_drewN ?_ _ | refine blk_drew ?_ | refine blk_alloc ?_ _)); refine blk_put (cs := #[.int .i64 (wrap64 (Int.tdiv (wrap64 (rd l0 0)) 64)), .int .i64 (Int.tmod (wrap64 (Int.tdiv (wrap64 (rd l0 0)) 8)) 8), .int .i64 (Int.tmod (wrap64 (rd l0 0)) 8), .int .i64 (wrap64 (rd l0 1)), .int .i64 0, .int .i64 0, .int .u32 0, .int .u32 0, .int .u32 0, .int .u64 0, .int .u64 0, .int .u64 0, .int .u64 0]) ?_ 4 _ rfl; (with_reducible repeat (first | refine blk_drewN ?_ _ | refine blk_drew ?_ | refine blk_alloc ?_ _)); refine blk_put (cs := #[.int .i64 (wrap64 (Int.tdiv (wrap64 (rd l0 0)) 64)), .int .i64 (Int.tmod (wrap64 (Int.tdiv (wrap64 (rd l0 0)) 8)) 8), .int .i64 (Int.tmod (wrap64 (rd l0 0)) 8), .int .i64 0, .int .i64 0, .int .i64 0, .int .u32 0, .int .u32 0, .int .u32 0, .int .u64 0, .int .u64 0, .int .u64 0, .int .u64 0]) ?_ 3 _ rfl; (with_reducible repeat (first | refine blk_drewN ?_ _ | refine blk_drew ?_ | refine blk_alloc ?_ _)); refine blk_put (cs := #[.int .i64 (wrap64 (Int.tdiv (wrap64 (rd l0 0)) 64)), .int .i64 (Int.tmod (wrap64 (Int.tdiv (wrap64 (rd l0 0)) 8)) 8), .int .i64 0, .int .i64 0, .int .i64 0, .int .i64 0, .int .u32 0, .int .u32 0, .int .u32 0, .int .u64 0, .int .u64 0, .int .u64 0, .int .u64 0]) ?_ 2 _ rfl; (with_reducible repeat (first | refine blk_drewN ?_ _ | refine blk_drew ?_ | refine blk_alloc ?_ _)); refine blk_put (cs := #[.int .i64 (wrap64 (Int.tdiv (wrap64 (rd l0 0)) 64)), .int .i64 0, .int .i64 0, .int .i64 0, .int .i64 0, .int .i64 0, .int .u32 0, .int .u32 0, .int .u32 0, .int .u64 0, .int .u64 0, .int .u64 0, .int .u64 0]) ?_ 1 _ rfl; (with_reducible repeat (first | refine blk_drewN ?_ _ | refine blk_drew ?_ | refine blk_alloc ?_ _)); refine blk_put (cs := #[.int .i64 0, .int .i64 0, .int .i64 0, .int .i64 0, .int .i64 0, .int .i64 0, .int .u32 0, .int .u32 0, .int .u32 0, .int .u64 0, .int .u64 0, .int .u64 0, .int .u64 0]) ?_ 0 _ rfl; (with_reducible repeat (first | refine blk_drewN ?_ _ | refine blk_drew ?_ | refine blk_alloc ?_ _)); exact BK246.out) Try.underlying25 rfl (by kernel_rfl)) rfl ?_
                      exact ⟨_, by first | rfl | (simp [errW_none, errW_some] <;> rfl) | (simp [*, errW_none, errW_some] <;> rfl), by (with_reducible repeat (first | apply Kd.R_alloc | apply Kd.R_drewN | apply Kd.R_drew)); exact Kd.R_mono (Kd.R_far (p := ⟨gb246, 12, none⟩) (Kd.R_far (p := ⟨gb246, 11, none⟩) (Kd.R_far (p := ⟨gb246, 10, none⟩) (Kd.R_far (p := ⟨gb246, 9, none⟩) (Kd.R_far (p := ⟨gb246, 8, none⟩) (Kd.R_far (p := ⟨gb246, 7, none⟩) (Kd.R_far (p := ⟨gb246, 6, none⟩) (Kd.R_far (p := ⟨gb246, 5, none⟩) (Kd.R_far (p := ⟨gb246, 4, none⟩) (Kd.R_far (p := ⟨gb246, 3, none⟩) (Kd.R_far (p := ⟨gb246, 2, none⟩) (Kd.R_far (p := ⟨gb246, 1, none⟩) (Kd.R_far (p := ⟨gb246, 0, none⟩) (Kd.R_types HO267.out BK246.out (by decide)) (fun _ hk => hk.2) (.int .i64 (wrap64 (Int.tdiv (wrap64 (rd l0 0)) 64)))) (fun _ hk => hk.2) (.int .i64 (Int.tmod (wrap64 (Int.tdiv (wrap64 (rd l0 0)) 8)) 8))) (fun _ hk => hk.2) (.int .i64 (Int.tmod (wrap64 (rd l0 0)) 8))) (fun _ hk => hk.2) (.int .i64 (wrap64 (rd l0 1)))) (fun _ hk => hk.2) (.int .i64 t250)) (fun _ hk => hk.2) (.int .i64 t252)) (fun _ hk => hk.2) (.int .u32 ((t254) % 4294967296))) (fun _ hk => hk.2) (.int .u32 ((t255) % 4294967296))) (fun _ hk => hk.2) (.int .u32 ((t256) % 4294967296))) (fun _ hk => hk.2) (.int .u64 t257)) (fun _ hk => hk.2) (.int .u64 t258)) (fun _ hk => hk.2) (.int .u64 t259)) (fun _ hk => hk.2) (.int .u64 t260)) (fun _ hk => trivial), by repeat (first | (with_reducible first | exact HB.out | apply below_alloc | apply pw_below_drewN | apply below_drew1 | refine below_set ?_ GE246.out | refine below_set ?_ GE253.out) | exact HB.out)⟩
                    · rw [if_neg c24] at H
                      exact absurd H (by simp)
                  · rw [if_neg c23] at H
                    exact absurd H (by simp)
                · rw [if_neg c14] at H
                  exact absurd H (by simp)
              · rw [if_neg c12] at H
                exact absurd H (by simp)
            · rw [if_neg c11] at H
              exact absurd H (by simp)
    · rw [if_neg c5] at H
      exact absurd H (by simp)

end Go.Proofs.Ytpmkggcmnelhhaa.P
