/- Texts of this claim, laid together: each says itself what it proves. -/
import Derived.Test.YtjbjkjlfikfeeaaM1
import Derived.Test.YtjbjkjlfikfeeaaM18
import Derived.Test.YtjbjkjlfikfeeaaM3
namespace Go.Proofs.Ytjbjkjlfikfeeaa.P
open Go.RowKit Go.Proofs.YtjbjkjlfikfeeaaW.PrintWords Go.Proofs.YtjbjkjlfikfeeaaW.PrintLast Go.Proofs.YtjbjkjlfikfeeaaW.PrintMore
attribute [local go_sem] max2_int min2_int max_two min_two max_three min_three max_four min_four Go.Proofs.Ytjbjkjlfikfeeaa.Op.isSome_setCell   -- for this text's walks alone
set_option linter.unusedVariables false
set_option linter.unusedSimpArgs false

/-! ### root_Distance: function 23 -/
def root_Distance.f (a0_0 : Int) (a0_1 : Int) (a0_2 : Int) (a0_3 : Int) : Option (Int) := (root_Check.f a0_0 a0_1 a0_2 a0_3).bind fun t217 => (if t217 = 0 then (some (wrap64 ((wrap64 (Int.tdiv (wrap64 (a0_1 + 1)) 2)) + a0_2))) else (some 0))
set_option maxHeartbeats 8000000 in
set_option maxRecDepth 100000 in
theorem root_Distance.calls (a0_0 : Int) (a0_1 : Int) (a0_2 : Int) (a0_3 : Int) (r : Int) (w : World) (h : root_Distance.f a0_0 a0_1 a0_2 a0_3 = some r) :
    Calls Try.prog 23 #[.agg #[.int .i64 a0_0, .int .i64 a0_1, .int .i64 a0_2, .int .u32 a0_3]] w fun e w' => e = .returned (.int .i64 r) ∧ Below w.heap.size w w' := by
  have hu50 := Try.underlying50
  have HB := Aside0.mk (Below.refl w.heap.size w)
  have H : ((root_Check.f a0_0 a0_1 a0_2 a0_3).bind fun t217 => (if t217 = 0 then (some (wrap64 ((wrap64 (Int.tdiv (wrap64 (a0_1 + 1)) 2)) + a0_2))) else (some 0))) = some r := h
  clear h
  replace H := Option.bind_eq_some_iff.mp H
  obtain ⟨t217, A20, H⟩ := H
  replace H : (if t217 = 0 then (some (wrap64 ((wrap64 (Int.tdiv (wrap64 (a0_1 + 1)) 2)) + a0_2))) else (some 0)) = some r := H
  have A2 := Aside0.mk A20
  clear A20
  by_cases c3 : t217 = 0
  · rw [if_pos c3] at H
    have c3b0 : (t217 == 0) = true := beq_iff_eq.mpr c3
    have c3b1 : (t217 != 0) = false := bne_eq_false_iff_eq.mpr c3
    clear c3
    obtain rfl := Option.some.inj H
    go_enter Try.func23, Try.ntmps23
    go_wp2_with (first | ((with_reducible refine gate_dst (N := 1) rfl ?_); refine box_event ?hg (N := 1) ?hd (cs := #[.int .i64 a0_0, .int .i64 a0_1, .int .i64 a0_2, .int .u32 a0_3]) (t := 50) ?hr ?_; (case hd => rfl); (case hg => rfl); (case hr => first | (go_simp; done) | (go_simp; rfl)); intro gb216 hg w4 hbox hb; have n0_ := Aside0.mk (below_step (by repeat (first | (with_reducible first | exact HB.out | apply below_alloc | apply pw_below_drewN | apply below_drew1) | exact HB.out)) hb); have n1_ := Aside0.mk (hbox); have n2_ := Aside0.mk ((by rw [hg]; exact (below_size (by repeat (first | (with_reducible first | exact HB.out | apply below_alloc | apply pw_below_drewN | apply below_drew1) | exact HB.out))) : w.heap.size ≤ gb216)); have n3_ := Aside0.mk ((by rw [hg]; exact (below_size (by repeat (first | (with_reducible first | exact HB.out | apply below_alloc | apply pw_below_drewN | apply below_drew1) | exact HB.out))) : w.heap.size ≤ gb216)); clear HB; have HB := n0_; have BK216 := n1_; have GW216 := n2_; have GE216 := n3_; clear n0_ n1_ n2_ n3_; clear hb hbox hg; have hcz5_0 : w4.cell? ⟨gb216, 0, none⟩ = some (.int .i64 a0_0) := (blk_cell BK216.out 0).trans rfl; have hcz5_1 : w4.cell? ⟨gb216, 1, none⟩ = some (.int .i64 a0_1) := (blk_cell BK216.out 1).trans rfl; have hcz5_2 : w4.cell? ⟨gb216, 2, none⟩ = some (.int .i64 a0_2) := (blk_cell BK216.out 2).trans rfl; have hcz5_3 : w4.cell? ⟨gb216, 3, none⟩ = some (.int .u32 a0_3) := (blk_cell BK216.out 3).trans rfl; have hfz5_0 := blk_frozen BK216.out 0; have hfz5_1 := blk_frozen BK216.out 1; have hfz5_2 := blk_frozen BK216.out 2; have hfz5_3 := blk_frozen BK216.out 3) | ((with_reducible refine gate_callee (f := 55) rfl ?_); refine goesL_ (some 4) rfl rfl Try.func55 (by kernel_rfl) rfl #[.agg #[.int .i64 a0_0, .int .i64 a0_1, .int .i64 a0_2, .int .u32 a0_3]] rfl (by (try simp only [List.map_toArray, List.map_cons, List.map_nil]); first | done | rfl | (simp only [List.length_drop, List.length_take]; rfl)) ?_; (with_reducible refine (root_Check.calls a0_0 a0_1 a0_2 a0_3 t217 _ A2.out).mono ?_); rintro e w6 ⟨rfl, hb⟩; refine ⟨_, rfl, ?_⟩; have n0_ := Aside0.mk (blk_below (g := gb216) (o := .cells #[.int .i64 a0_0, .int .i64 a0_1, .int .i64 a0_2, .int .u32 a0_3] 50 (0, 0)) (by (with_reducible repeat (first | refine blk_drewN ?_ _ | refine blk_drew ?_ | refine blk_alloc ?_ _)); exact BK216.out) hb); have n1_ := Aside0.mk (below_step (by repeat (first | (with_reducible first | exact HB.out | apply below_alloc | apply pw_below_drewN | apply below_drew1 | refine below_set ?_ GE216.out) | exact HB.out)) hb); clear BK216; clear HB; have BK216 := n0_; have HB := n1_; clear n0_ n1_; (try clear hb); (try clear hb2); (try clear hk); (try clear hi); have hcz7_0 : w6.cell? ⟨gb216, 0, none⟩ = some (.int .i64 a0_0) := (blk_cell BK216.out 0).trans rfl; have hcz7_1 : w6.cell? ⟨gb216, 1, none⟩ = some (.int .i64 a0_1) := (blk_cell BK216.out 1).trans rfl; have hcz7_2 : w6.cell? ⟨gb216, 2, none⟩ = some (.int .i64 a0_2) := (blk_cell BK216.out 2).trans rfl; have hcz7_3 : w6.cell? ⟨gb216, 3, none⟩ = some (.int .u32 a0_3) := (blk_cell BK216.out 3).trans rfl; have hfz7_0 := blk_frozen BK216.out 0; have hfz7_1 := blk_frozen BK216.out 1; have hfz7_2 := blk_frozen BK216.out 2; have hfz7_3 := blk_frozen BK216.out 3))
    go_ret
    exact ⟨by first | rfl | (simp [errW_none, errW_some] <;> rfl) | (simp [*, errW_none, errW_some] <;> rfl), by repeat (first | (with_reducible first | exact HB.out | apply below_alloc | apply pw_below_drewN | apply below_drew1 | refine below_set ?_ GE216.out) | exact HB.out)⟩
  · rw [if_neg c3] at H
    have c3b0 : (t217 == 0) = false := beq_eq_false_iff_ne.mpr c3
    have c3b1 : (t217 != 0) = true := bne_iff_ne.mpr c3
    obtain rfl := Option.some.inj H
    go_enter Try.func23, Try.ntmps23
    go_wp2_with (first | ((with_reducible refine gate_dst (N := 1) rfl ?_); refine box_event ?hg (N := 1) ?hd (cs := #[.int .i64 a0_0, .int .i64 a0_1, .int .i64 a0_2, .int .u32 a0_3]) (t := 50) ?hr ?_; (case hd => rfl); (case hg => rfl); (case hr => first | (go_simp; done) | (go_simp; rfl)); intro gb216 hg w8 hbox hb; have n0_ := Aside0.mk (below_step (by repeat (first | (with_reducible first | exact HB.out | apply below_alloc | apply pw_below_drewN | apply below_drew1) | exact HB.out)) hb); have n1_ := Aside0.mk (hbox); have n2_ := Aside0.mk ((by rw [hg]; exact (below_size (by repeat (first | (with_reducible first | exact HB.out | apply below_alloc | apply pw_below_drewN | apply below_drew1) | exact HB.out))) : w.heap.size ≤ gb216)); have n3_ := Aside0.mk ((by rw [hg]; exact (below_size (by repeat (first | (with_reducible first | exact HB.out | apply below_alloc | apply pw_below_drewN | apply below_drew1) | exact HB.out))) : w.heap.size ≤ gb216)); clear HB; have HB := n0_; have BK216 := n1_; have GW216 := n2_; have GE216 := n3_; clear n0_ n1_ n2_ n3_; clear hb hbox hg; have hcz9_0 : w8.cell? ⟨gb216, 0, none⟩ = some (.int .i64 a0_0) := (blk_cell BK216.out 0).trans rfl; have hcz9_1 : w8.cell? ⟨gb216, 1, none⟩ = some (.int .i64 a0_1) := (blk_cell BK216.out 1).trans rfl; have hcz9_2 : w8.cell? ⟨gb216, 2, none⟩ = some (.int .i64 a0_2) := (blk_cell BK216.out 2).trans rfl; have hcz9_3 : w8.cell? ⟨gb216, 3, none⟩ = some (.int .u32 a0_3) := (blk_cell BK216.out 3).trans rfl; have hfz9_0 := blk_frozen BK216.out 0; have hfz9_1 := blk_frozen BK216.out 1; have hfz9_2 := blk_frozen BK216.out 2; have hfz9_3 := blk_frozen BK216.out 3) | ((with_reducible refine gate_callee (f := 55) rfl ?_); refine goesL_ (some 4) rfl rfl Try.func55 (by kernel_rfl) rfl #[.agg #[.int .i64 a0_0, .int .i64 a0_1, .int .i64 a0_2, .int .u32 a0_3]] rfl (by (try simp only [List.map_toArray, List.map_cons, List.map_nil]); first | done | rfl | (simp only [List.length_drop, List.length_take]; rfl)) ?_; (with_reducible refine (root_Check.calls a0_0 a0_1 a0_2 a0_3 t217 _ A2.out).mono ?_); rintro e w10 ⟨rfl, hb⟩; refine ⟨_, rfl, ?_⟩; have n0_ := Aside0.mk (blk_below (g := gb216) (o := .cells #[.int .i64 a0_0, .int .i64 a0_1, .int .i64 a0_2, .int .u32 a0_3] 50 (0, 0)) (by (with_reducible repeat (first | refine blk_drewN ?_ _ | refine blk_drew ?_ | refine blk_alloc ?_ _)); exact BK216.out) hb); have n1_ := Aside0.mk (below_step (by repeat (first | (with_reducible first | exact HB.out | apply below_alloc | apply pw_below_drewN | apply below_drew1 | refine below_set ?_ GE216.out) | exact HB.out)) hb); clear BK216; clear HB; have BK216 := n0_; have HB := n1_; clear n0_ n1_; (try clear hb); (try clear hb2); (try clear hk); (try clear hi)))
    go_ret
    exact ⟨by first | rfl | (simp [errW_none, errW_some] <;> rfl) | (simp [*, errW_none, errW_some] <;> rfl), by repeat (first | (with_reducible first | exact HB.out | apply below_alloc | apply pw_below_drewN | apply below_drew1 | refine below_set ?_ GE216.out) | exact HB.out)⟩

end Go.Proofs.Ytjbjkjlfikfeeaa.P
namespace Go.Proofs.Ytjbjkjlfikfeeaa.P
open Go.RowKit Go.Proofs.YtjbjkjlfikfeeaaW.PrintWords Go.Proofs.YtjbjkjlfikfeeaaW.PrintLast Go.Proofs.YtjbjkjlfikfeeaaW.PrintMore
attribute [local go_sem] max2_int min2_int max_two min_two max_three min_three max_four min_four Go.Proofs.Ytjbjkjlfikfeeaa.Op.isSome_setCell   -- for this text's walks alone
set_option linter.unusedVariables false
set_option linter.unusedSimpArgs false

/-! ### root_Primary: function 13 -/
def root_Primary.f (a0 : Int) (a1 : Int) : Option (Int × Int × Int × Int × Int) := (root_valid.f 1 0 a0 a1).bind fun bt193 => (some (bt193.1, bt193.2.1, bt193.2.2.1, bt193.2.2.2.1, bt193.2.2.2.2))
set_option maxHeartbeats 8000000 in
set_option maxRecDepth 100000 in
theorem root_Primary.calls (a0 : Int) (a1 : Int) (r1 : Int) (r2 : Int) (r3 : Int) (r4 : Int) (r5 : Int) (w : World) (h : root_Primary.f a0 a1 = some (r1, r2, r3, r4, r5)) :
    Calls Try.prog 13 #[.int .i64 a0, .int .u32 a1] w fun e w' => e = .returned (.tuple #[.agg #[.int .i64 r1, .int .i64 r2, .int .i64 r3, .int .u32 r4], .int .i64 r5]) ∧ Below w.heap.size w w' := by
  have hu50 := Try.underlying50
  have HB := Aside0.mk (Below.refl w.heap.size w)
  have H : ((root_valid.f 1 0 a0 a1).bind fun bt193 => (some (bt193.1, bt193.2.1, bt193.2.2.1, bt193.2.2.2.1, bt193.2.2.2.2))) = some (r1, r2, r3, r4, r5) := h
  clear h
  replace H := Option.bind_eq_some_iff.mp H
  obtain ⟨⟨t193, t194, t195, t196, t197⟩, A30, H⟩ := H
  replace H : (some (t193, t194, t195, t196, t197)) = some (r1, r2, r3, r4, r5) := H
  have A3 := Aside0.mk A30
  clear A30
  simp only [Option.some.injEq, Prod.mk.injEq] at H
  obtain ⟨rfl, rfl, rfl, rfl, rfl⟩ := H
  go_enter Try.func13, Try.ntmps13
  go_wp2_with (first | ((with_reducible refine gate_dst (N := 4) rfl ?_); refine box_event ?hg (N := 4) ?hd (cs := #[.int .i64 0, .int .i64 0, .int .i64 0, .int .u32 0]) (t := 50) ?hr ?_; (case hd => rfl); (case hg => rfl); (case hr => first | (go_simp; done) | (go_simp; rfl)); intro gb192 hg w4 hbox hb; have n0_ := Aside0.mk (below_step (by repeat (first | (with_reducible first | exact HB.out | apply below_alloc | apply pw_below_drewN | apply below_drew1) | exact HB.out)) hb); have n1_ := Aside0.mk (hbox); have n2_ := Aside0.mk ((by rw [hg]; exact (below_size (by repeat (first | (with_reducible first | exact HB.out | apply below_alloc | apply pw_below_drewN | apply below_drew1) | exact HB.out))) : w.heap.size ≤ gb192)); have n3_ := Aside0.mk ((by rw [hg]; exact (below_size (by repeat (first | (with_reducible first | exact HB.out | apply below_alloc | apply pw_below_drewN | apply below_drew1) | exact HB.out))) : w.heap.size ≤ gb192)); clear HB; have HB := n0_; have BK192 := n1_; have GW192 := n2_; have GE192 := n3_; clear n0_ n1_ n2_ n3_; clear hb hbox hg) | ((with_reducible refine gate_callee (f := 32) rfl ?_); refine goesL_ (some 9) rfl rfl Try.func32 (by kernel_rfl) rfl #[.agg #[.int .i64 1, .int .i64 0, .int .i64 a0, .int .u32 a1]] rfl (by (try simp only [List.map_toArray, List.map_cons, List.map_nil]); first | done | rfl | (simp only [List.length_drop, List.length_take]; rfl)) ?_; (with_reducible refine (root_valid.calls 1 0 a0 a1 t193 t194 t195 t196 t197 _ A3.out).mono ?_); rintro e w5 ⟨rfl, hb⟩; refine ⟨_, rfl, ?_⟩; have n0_ := Aside0.mk (blk_below (g := gb192) (o := .cells #[.int .i64 0, .int .i64 0, .int .i64 0, .int .u32 0] 50 (0, 0)) (by (with_reducible repeat (first | refine blk_drewN ?_ _ | refine blk_drew ?_ | refine blk_alloc ?_ _)); exact BK192.out) hb); have n1_ := Aside0.mk (below_step (by repeat (first | (with_reducible first | exact HB.out | apply below_alloc | apply pw_below_drewN | apply below_drew1 | refine below_set ?_ GE192.out) | exact HB.out)) hb); clear BK192; clear HB; have BK192 := n0_; have HB := n1_; clear n0_ n1_; (try clear hb); (try clear hb2); (try clear hk); (try clear hi); have hcz6_0 : w5.cell? ⟨gb192, 0, none⟩ = some (.int .i64 0) := (blk_cell BK192.out 0).trans rfl; have hcz6_1 : w5.cell? ⟨gb192, 1, none⟩ = some (.int .i64 0) := (blk_cell BK192.out 1).trans rfl; have hcz6_2 : w5.cell? ⟨gb192, 2, none⟩ = some (.int .i64 0) := (blk_cell BK192.out 2).trans rfl; have hcz6_3 : w5.cell? ⟨gb192, 3, none⟩ = some (.int .u32 0) := (blk_cell BK192.out 3).trans rfl; have hfz6_0 := blk_frozen BK192.out 0; have hfz6_1 := blk_frozen BK192.out 1; have hfz6_2 := blk_frozen BK192.out 2; have hfz6_3 := blk_frozen BK192.out 3))
  refine bodyPost_ret (results_ct rfl _ _ gb192 50 #[.int .i64 t193, .int .i64 t194, .int .i64 t195, .int .u32 t196] (0, 0) _ rfl (by (with_reducible repeat (first | refine blk_drewN ?_ _ | refine blk_drew ?_ | refine blk_alloc ?_ _)); refine blk_put (cs := #[.int .i64 t193, .int .i64 t194, .int .i64 t195, .int .u32 0]) ?_ 3 _ rfl; (with_reducible repeat (first | refine blk_drewN ?_ _ | refine blk_drew ?_ | refine blk_alloc ?_ _)); refine blk_put (cs := #[.int .i64 t193, .int .i64 t194, .int .i64 0, .int .u32 0]) ?_ 2 _ rfl; (with_reducible repeat (first | refine blk_drewN ?_ _ | refine blk_drew ?_ | refine blk_alloc ?_ _)); refine blk_put (cs := #[.int .i64 t193, .int .i64 0, .int .i64 0, .int .u32 0]) ?_ 1 _ rfl; (with_reducible repeat (first | refine blk_drewN ?_ _ | refine blk_drew ?_ | refine blk_alloc ?_ _)); refine blk_put (cs := #[.int .i64 0, .int .i64 0, .int .i64 0, .int .u32 0]) ?_ 0 _ rfl; (with_reducible repeat (first | refine blk_drewN ?_ _ | refine blk_drew ?_ | refine blk_alloc ?_ _)); exact BK192.out) Try.underlying50 rfl (by kernel_rfl)) rfl ?_
  exact ⟨by first | rfl | (simp [errW_none, errW_some] <;> rfl) | (simp [*, errW_none, errW_some] <;> rfl), by repeat (first | (with_reducible first | exact HB.out | apply below_alloc | apply pw_below_drewN | apply below_drew1 | refine below_set ?_ GE192.out) | exact HB.out)⟩

end Go.Proofs.Ytjbjkjlfikfeeaa.P
/- A reader in whatever state, in what has turned above w0 alone; literals of bytes. -/
namespace Go.Proofs.Ytjbjkjlfikfeeaa.Rd
set_option linter.unusedVariables false
open Go.RowKit Go.Proofs.YtjbjkjlfikfeeaaW.PrintWords Go.Proofs.YtjbjkjlfikfeeaaW.PrintLast Go.Proofs.YtjbjkjlfikfeeaaW.PrintMore

structure RdA (w0 w : World) (g b : Nat) (all rest : List Int) (er : Int) : Prop where
  at' : ∃ p, At w g b all rest er p
  g0 : w0.heap.size ≤ g
  b0 : w0.heap.size ≤ b
  low : Below w0.heap.size w0 w
  ok : bytesOk all
section
variable {w0 w : World} {g b : Nat} {all rest : List Int} {er : Int}
theorem RdA.went (h : RdA w0 w g b all rest er) {s : List Int × Int} {w' : World} (hw : Went w g b all s w') : RdA w0 w' g b all s.1 s.2 :=
  ⟨hw.1, h.g0, h.b0, hw.2.below h.low h.g0 h.low.size, h.ok⟩
theorem RdA.uint (h : RdA w0 w g b all rest er) (n : Int) :
    Calls Try.prog 40 #[.pointer (some ⟨g, 0, none⟩), .int .i64 n] w fun e w' => e = .returned (.int .u64 (uintS rest er n).1) ∧ RdA w0 w' g b all (uintS rest er n).2.1 (uintS rest er n).2.2 ∧ Upd w w' g := by
  obtain ⟨p, ha⟩ := h.at'
  exact (uint_any ha h.ok n).mono fun e w' ⟨e1, hw⟩ => ⟨e1, h.went hw, hw.2⟩
theorem RdA.int (h : RdA w0 w g b all rest er) (n : Int) :
    Calls Try.prog 41 #[.pointer (some ⟨g, 0, none⟩), .int .i64 n] w fun e w' => e = .returned (.int .i64 (intS rest er n).1) ∧ RdA w0 w' g b all (intS rest er n).2.1 (intS rest er n).2.2 ∧ Upd w w' g := by
  obtain ⟨p, ha⟩ := h.at'
  exact (int_any ha h.ok n).mono fun e w' ⟨e1, hw⟩ => ⟨e1, h.went hw, hw.2⟩
/-- The bytes that a call has answered: a slice of the call's own. -/
theorem RdA.bytes (h : RdA w0 w g b all rest er) (n : Int) :
    Calls Try.prog 42 #[.pointer (some ⟨g, 0, none⟩), .int .i64 n] w fun e w' => ∃ A c, e = .returned (.slice A (bytesS rest er n).1.length c) ∧ (bytesS rest er n).1.length ≤ c ∧ Kd.C (Kd.int .u8) w' A (bytesS rest er n).1.length (bytesS rest er n).1 ∧ RdA w0 w' g b all (bytesS rest er n).2.1 (bytesS rest er n).2.2 ∧ Upd w w' g ∧ w'.ownsRow w.heap.size 5 1 (.slice A (bytesS rest er n).1.length c) (bytesS rest er n).1.length (encs (Value.int .u8) (bytesS rest er n).1) := by
  obtain ⟨p, ha⟩ := h.at'
  refine (bytes_any ha n).mono ?_
  rintro e w' ⟨v, rfl, ho, hw⟩
  obtain ⟨A, c, rfl, hc, hC⟩ := Kd.R_reads (d := Kd.int .u8) (Kd.R_of_own (ok := fun _ => True) ho (fun _ _ => trivial))
  exact ⟨A, c, rfl, hc, hC, h.went hw, hw.2, ho⟩
theorem RdA.left (h : RdA w0 w g b all rest er) :
    Calls Try.prog 43 #[.pointer (some ⟨g, 0, none⟩)] w fun e w' => e = .returned (.int .i64 rest.length) ∧ w' = w := by
  obtain ⟨p, ha⟩ := h.at'
  exact left_any ha
theorem RdA.g_lt (h : RdA w0 w g b all rest er) : g < w.heap.size := by obtain ⟨p, ha⟩ := h.at'; exact lt_of_blk ha.blk
theorem RdA.b_lt (h : RdA w0 w g b all rest er) : b < w.heap.size := by obtain ⟨p, ha⟩ := h.at'; exact lt_of_blk ha.byt
theorem RdA.below' {w' : World} (h : RdA w0 w g b all rest er) (hb : Below w.heap.size w w') : RdA w0 w' g b all rest er := by
  obtain ⟨p, ha⟩ := h.at'
  exact ⟨⟨p, ha.below hb (lt_of_blk ha.blk) (lt_of_blk ha.byt)⟩, h.g0, h.b0, below_step h.low hb, h.ok⟩
/-- A reader that a call beside it leaves alone. -/
theorem RdA.upd {w' : World} {g' : Nat} (h : RdA w0 w g b all rest er) (hu : Upd w w' g') (h0 : w0.heap.size ≤ g') (h1 : g ≠ g') (h2 : b ≠ g') : RdA w0 w' g b all rest er := by
  obtain ⟨p, ha⟩ := h.at'
  exact ⟨⟨p, ha.keep hu h1 h2⟩, h.g0, h.b0, hu.below h.low h0 h.low.size, h.ok⟩
/-- NewReader. -/
theorem RdA.new {A : Option Addr} {c : Nat} {l : List Int} (hw : Below w0.heap.size w0 w) (hr : Kd.C (Kd.int .u8) w A l.length l) (hc : l.length ≤ c) (hb : l.length ≤ 140737488355000) (hk : bytesOk l) :
    Calls Try.prog 39 #[.slice A l.length c] w fun e w' => ∃ g b, e = .returned (.pointer (some ⟨g, 0, none⟩)) ∧ RdA w0 w' g b l l 0 ∧ Below w.heap.size w w' ∧ w.heap.size ≤ g ∧ w.heap.size ≤ b := by
  refine (new_reader hr hc hb).mono ?_
  rintro e w' ⟨g, b, p, rfl, h1, h2, ha, hl⟩
  exact ⟨g, b, rfl, ⟨⟨p, ha⟩, Nat.le_trans hw.size h1, Nat.le_trans hw.size h2, below_step hw hl, hk⟩, hl, h1, h2⟩
end
/-- A literal of bytes. -/
theorem lit_bytes {P : Program} {W : World} {ops : Array Oper} {rest : List Oper} {o : Oper} {a : Act} {Q : Exit → Act → World → Prop} (hgd : o.guard = none) {N : Tmp} (hd : o.dst = some N) (xs : List Int) (hm : xs.length ≤ 140737488355000)
    (hrun : (execOp a.eval o).run P W = .ok (.value (.slice (some ⟨W.heap.size, 0, none⟩) xs.length xs.length)) (W.alloc (.cells (encs (Value.int .u8) xs).toArray 5)))
    (h : ∀ A c w1, xs.length ≤ c → Kd.C (Kd.int .u8) w1 A xs.length xs → Below W.heap.size W w1 → wpList P ops Q rest (a.put o.dst (.slice A xs.length c)) w1) : wpList P ops Q (o :: rest) a W := by
  refine Kd.R_lit (w0 := W) (Kd.int .u8) W.heap.size 5 hgd hd (xs := xs) (inner := encs (Value.int .u8) xs) (ok := fun _ => True) (okp := fun _ => True) hrun ?_ (fun _ h => h) trivial (Below.refl _ _) (Nat.le_refl _) (by omega) ?_
  · exact Kd.reps_scalar xs
  · intro v w1 ho hb _ _
    obtain ⟨A, c, rfl, hc, hC⟩ := Kd.R_reads ho
    exact h A c w1 hc hC hb
end Go.Proofs.Ytjbjkjlfikfeeaa.Rd
/- The number that bytes are, and the bytes of a number. -/
namespace Go.Proofs.Ytjbjkjlfikfeeaa.Rd
open Go.RowKit Go.Proofs.YtjbjkjlfikfeeaaW.PrintWords Go.Proofs.YtjbjkjlfikfeeaaW.PrintLast Go.Proofs.YtjbjkjlfikfeeaaW.PrintMore
open Go.Proofs.Ytjbjkjlfikfeeaa.P (digit wire_Append.f)
def be (n : Int) (s : Nat) : List Int := (List.range s).map (digit n s)
theorem be_length (n : Int) (s : Nat) : (be n s).length = s := by simp [be]

theorem or_byte (a b : Nat) (ha : a < 2 ^ 56) (hb : b < 256) : Go.bits .or .u64 (IntKind.u64.wrap ((a : Int) * 256)) (b : Int) = (a * 256 + b : Nat) := by
  have e : ∀ x y : Int, Go.bits .or .u64 x y = IntKind.u64.wrap ((BitVec.ofInt 64 x ||| BitVec.ofInt 64 y).toNat : Int) := fun _ _ => rfl
  rw [e, IntKind.wrap_u64, IntKind.wrap_u64]
  have e1 : (a : Int) * 256 % 18446744073709551616 = ((a * 256 : Nat) : Int) := by omega
  rw [e1, BitVec.toNat_or, BitVec.toNat_ofInt, BitVec.toNat_ofInt]
  have e2 : (((a * 256 : Nat) : Int) % ((2 ^ 64 : Nat) : Int)).toNat = 2 ^ 8 * a := by omega
  have e3 : ((b : Int) % ((2 ^ 64 : Nat) : Int)).toNat = b := by omega
  rw [e2, e3, ← Nat.two_pow_add_eq_or_of_lt (by omega)]
  omega
/-- The value of the first k bytes. -/
def val (l : List Int) : Nat → Int
  | 0 => 0
  | k + 1 => val l k * 256 + rd l k
theorem val_range {l : List Int} (h : bytesOk l) (k : Nat) : 0 ≤ val l k ∧ val l k < 2 ^ (8 * k) := by
  induction k with
  | zero => simp [val]
  | succ k ih =>
    obtain ⟨r0, r1⟩ := rd_byte h k
    rw [val, show 8 * (k + 1) = 8 * k + 8 by omega, Int.pow_add]
    generalize (2 : Int) ^ (8 * k) = p at *
    have : (2 : Int) ^ 8 = 256 := rfl
    rw [this]
    omega
theorem acc_val {l : List Int} (h : bytesOk l) (k : Nat) (hk : k ≤ 8) : acc l k = val l k := by
  induction k with
  | zero => rfl
  | succ k ih =>
    obtain ⟨r0, r1⟩ := rd_byte h k
    obtain ⟨v0, v1⟩ := val_range h k
    have hp : (2 : Int) ^ (8 * k) ≤ 2 ^ 56 := by
      have : (2 : Nat) ^ (8 * k) ≤ 2 ^ 56 := Nat.pow_le_pow_right (by omega) (by omega)
      have h2 : ((2 ^ (8 * k) : Nat) : Int) ≤ ((2 ^ 56 : Nat) : Int) := by exact_mod_cast this
      simpa using h2
    rw [acc, ih (by omega), val]
    obtain ⟨a, ha⟩ := Int.eq_ofNat_of_zero_le v0
    obtain ⟨c, hc⟩ := Int.eq_ofNat_of_zero_le r0
    rw [ha] at v1 ⊢
    rw [hc] at r1 ⊢
    rw [or_byte a c (by have : (a : Int) < 2 ^ 56 := Int.lt_of_lt_of_le v1 hp; omega) (by omega)]
    omega
theorem rd_be (n : Int) (s i : Nat) (hi : i < s) : rd (be n s) (i : Int) = digit n s i := by
  unfold rd be
  rw [Int.toNat_natCast, List.getD_eq_getElem?_getD, List.getElem?_map, List.getElem?_range hi]
  rfl
theorem val_be_at (n : Int) (s : Nat) (h0 : 0 ≤ n) (h1 : n < 2 ^ (8 * s)) : ∀ k, k ≤ s → val (be n s) k = n / 2 ^ (8 * (s - k)) := by
  intro k
  induction k with
  | zero =>
    intro _
    rw [val, Nat.sub_zero, Int.ediv_eq_zero_of_lt h0 h1]
  | succ k ih =>
    intro hk
    rw [val, ih (by omega), rd_be n s k (by omega)]
    unfold digit
    have e1 : 8 * (s - k) = 8 * (s - 1 - k) + 8 := by omega
    have e2 : s - (k + 1) = s - 1 - k := by omega
    rw [e1, e2, Int.pow_add, ← Int.ediv_ediv_of_nonneg (Int.pow_nonneg (by omega)), show (2 : Int) ^ 8 = 256 from rfl]
    omega
theorem val_be (n : Int) (s : Nat) (h0 : 0 ≤ n) (h1 : n < 2 ^ (8 * s)) : val (be n s) s = n := by
  rw [val_be_at n s h0 h1 s (Nat.le_refl _), Nat.sub_self]
  simp
theorem be_bytes (n : Int) (s : Nat) : bytesOk (be n s) := by
  intro x hx
  unfold be at hx
  obtain ⟨i, _, rfl⟩ := List.mem_map.1 hx
  unfold digit
  omega
theorem acc_be (n : Int) (s : Nat) (h0 : 0 ≤ n) (h1 : n < 2 ^ (8 * s)) (hs : s ≤ 8) : acc (be n s) s = n := by
  rw [acc_val (be_bytes n s) s hs, val_be n s h0 h1]
theorem mid_of {α : Type} (pre mid post : List α) (k s : Nat) (hk : pre.length = k) (hs : mid.length = s) : ((pre ++ (mid ++ post)).drop k).take s = mid := by
  subst hk hs
  rw [List.drop_left, List.take_left]
theorem val_div {l : List Int} (h : bytesOk l) (k : Nat) : ∀ d, val l (k + d) / 2 ^ (8 * d) = val l k := by
  intro d
  induction d with
  | zero => simp
  | succ d ih =>
    obtain ⟨r0, r1⟩ := rd_byte h (k + d)
    rw [show k + (d + 1) = (k + d) + 1 by omega, val, show 8 * (d + 1) = 8 + 8 * d by omega, Int.pow_add, ← Int.ediv_ediv_of_nonneg (by decide), show (2 : Int) ^ 8 = 256 from rfl]
    have e : (val l (k + d) * 256 + rd l ((k + d : Nat) : Int)) / 256 = val l (k + d) := by omega
    rw [e, ih]
theorem be_val {l : List Int} (h : bytesOk l) (s : Nat) (hs : l.length = s) : be (val l s) s = l := by
  apply List.ext_getElem
  · rw [be_length, hs]
  · intro i h1 h2
    rw [be_length] at h1
    have e : val l s / 2 ^ (8 * (s - 1 - i)) = val l (i + 1) := by
      have := val_div h (i + 1) (s - 1 - i)
      rw [show i + 1 + (s - 1 - i) = s by omega] at this
      exact this
    have e2 : (be (val l s) s)[i] = digit (val l s) s i := by
      simp [be]
    rw [e2]
    unfold digit
    rw [e, val]
    obtain ⟨r0, r1⟩ := rd_byte h i
    have e3 : rd l (i : Int) = l[i] := by
      unfold rd
      rw [Int.toNat_natCast, List.getD_eq_getElem?_getD, List.getElem?_eq_getElem h2]
      rfl
    rw [e3] at r0 r1 ⊢
    omega
/-- Append of a number that fits. -/
theorem app_fits (l : List Int) (n : Int) (s : Nat) (h1 : 1 ≤ s) (h8 : s ≤ 8) (h0 : 0 ≤ n) (hn : n < 2 ^ (8 * s)) (hl : l.length ≤ 140737488355000) : wire_Append.f l n s = some (l ++ be n s, 0) := by
  unfold wire_Append.f
  rw [if_pos h0, if_pos ⟨by omega, by omega⟩, Int.toNat_natCast, Int.ediv_eq_zero_of_lt h0 hn, if_neg (by omega), if_pos hl]
  rfl
/-- The whole number of a reader's bytes. -/
theorem uintS_be (n : Int) (s : Nat) (h1 : 1 ≤ s) (h8 : s ≤ 8) (h0 : 0 ≤ n) (hn : n < 2 ^ (8 * s)) (r : List Int) : uintS (be n s ++ r) 0 s = (n, r, 0) := by
  have hr : rightS s = true := decide_eq_true ⟨by omega, by omega⟩
  have ht : takeS (be n s ++ r) 0 s true = (some (be n s), r, 0) := by
    unfold takeS
    rw [if_neg (by simp), if_neg (by simp), if_neg (by rw [List.length_append, be_length]; omega), Int.toNat_natCast]
    rw [List.take_append_of_le_length (by rw [be_length]; omega), List.take_of_length_le (by rw [be_length]; omega), List.drop_left' (be_length _ _)]
  unfold uintS
  rw [hr, ht]
  simp only
  rw [Int.toNat_natCast, acc_be n s h0 hn h8]
theorem intS_be (n : Int) (s : Nat) (h1 : 1 ≤ s) (h8 : s ≤ 8) (h0 : 0 ≤ n) (hn : n < 2 ^ (8 * s)) (r : List Int) : intS (be n s ++ r) 0 s = (upDown n s, r, 0) := by
  have hr : rightS s = true := decide_eq_true ⟨by omega, by omega⟩
  have ht : takeS (be n s ++ r) 0 s true = (some (be n s), r, 0) := by
    unfold takeS
    rw [if_neg (by simp), if_neg (by simp), if_neg (by rw [List.length_append, be_length]; omega), Int.toNat_natCast]
    rw [List.take_append_of_le_length (by rw [be_length]; omega), List.take_of_length_le (by rw [be_length]; omega), List.drop_left' (be_length _ _)]
  unfold intS
  rw [hr, ht]
  simp only
  rw [Int.toNat_natCast, acc_be n s h0 hn h8]
end Go.Proofs.Ytjbjkjlfikfeeaa.Rd
