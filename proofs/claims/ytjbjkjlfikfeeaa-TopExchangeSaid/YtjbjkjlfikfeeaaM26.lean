/- Texts of this claim, laid together: each says itself what it proves. -/
import Derived.Test.YtjbjkjlfikfeeaaM1
import Derived.Test.YtjbjkjlfikfeeaaM4
import Derived.Test.YtjbjkjlfikfeeaaM2
import Derived.Test.YtjbjkjlfikfeeaaM20
import Derived.Test.YtjbjkjlfikfeeaaM15
import Derived.Test.YtjbjkjlfikfeeaaM14
import Derived.Test.YtjbjkjlfikfeeaaM17
import Derived.Test.YtjbjkjlfikfeeaaM16
import Derived.Test.YtjbjkjlfikfeeaaM19
import Derived.Test.YtjbjkjlfikfeeaaM7
import Derived.Test.YtjbjkjlfikfeeaaM24
import Derived.Test.YtjbjkjlfikfeeaaM21
import Derived.Test.YtjbjkjlfikfeeaaM25
namespace Go.Proofs.Ytjbjkjlfikfeeaa.P
open Go.RowKit Go.Proofs.YtjbjkjlfikfeeaaW.PrintWords Go.Proofs.YtjbjkjlfikfeeaaW.PrintLast Go.Proofs.YtjbjkjlfikfeeaaW.PrintMore
attribute [local go_sem] max2_int min2_int max_two min_two max_three min_three max_four min_four Go.Proofs.Ytjbjkjlfikfeeaa.Op.isSome_setCell   -- for this text's walks alone
set_option linter.unusedVariables false
set_option linter.unusedSimpArgs false

/-! ### server_Field: function 34 -/
def server_Field.f (a0_0 : Int) (a0_1 : Int) : Option (Int × List Int × Int) := (drift_Check.f a0_0 a0_1).bind fun t166 => (if t166 = 0 then ((wire_Append.f ([] : List Int) (IntKind.u64.wrap (a0_0)) 8).bind fun bt167 => ((wire_Append.f bt167.1 (IntKind.u64.wrap (a0_1)) 8).bind fun bt171 => (some (28929, bt171.1, 0)))) else (some (0, ([] : List Int), 2)))
set_option maxHeartbeats 8000000 in
set_option maxRecDepth 100000 in
theorem server_Field.calls (a0_0 : Int) (a0_1 : Int) (r1 : Int) (r2 : List Int) (r3 : Int) (w : World) (h : server_Field.f a0_0 a0_1 = some (r1, r2, r3)) :
    Calls Try.prog 34 #[.agg #[.int .i64 a0_0, .int .i64 a0_1]] w fun e w' => ∃ v1_ : Value, e = .returned (.tuple #[.agg #[.int .i64 r1, v1_], .int .i64 r3]) ∧ Kd.R (Kd.int .u8) 5 w' w.heap.size (fun _ => True) v1_ r2 ∧ Below w.heap.size w w' := by
  have hu33 := Try.underlying33
  have hu94 := Try.underlying94
  have HB := Aside0.mk (Below.refl w.heap.size w)
  have H : ((drift_Check.f a0_0 a0_1).bind fun t166 => (if t166 = 0 then ((wire_Append.f ([] : List Int) (IntKind.u64.wrap (a0_0)) 8).bind fun bt167 => ((wire_Append.f bt167.1 (IntKind.u64.wrap (a0_1)) 8).bind fun bt171 => (some (28929, bt171.1, 0)))) else (some (0, ([] : List Int), 2)))) = some (r1, r2, r3) := h
  clear h
  replace H := Option.bind_eq_some_iff.mp H
  obtain ⟨t166, A20, H⟩ := H
  replace H : (if t166 = 0 then ((wire_Append.f ([] : List Int) (IntKind.u64.wrap (a0_0)) 8).bind fun bt167 => ((wire_Append.f bt167.1 (IntKind.u64.wrap (a0_1)) 8).bind fun bt171 => (some (28929, bt171.1, 0)))) else (some (0, ([] : List Int), 2))) = some (r1, r2, r3) := H
  have A2 := Aside0.mk A20
  clear A20
  by_cases c3 : t166 = 0
  · rw [if_pos c3] at H
    have c3b0 : (t166 == 0) = true := beq_iff_eq.mpr c3
    have c3b1 : (t166 != 0) = false := bne_eq_false_iff_eq.mpr c3
    clear c3
    replace H := Option.bind_eq_some_iff.mp H
    obtain ⟨⟨t167, t168⟩, A40, H⟩ := H
    replace H : ((wire_Append.f t167 (IntKind.u64.wrap (a0_1)) 8).bind fun bt171 => (some (28929, bt171.1, 0))) = some (r1, r2, r3) := H
    have A4 := Aside0.mk A40
    clear A40
    replace H := Option.bind_eq_some_iff.mp H
    obtain ⟨⟨t171, t172⟩, A50, H⟩ := H
    replace H : (some (28929, t171, 0)) = some (r1, r2, r3) := H
    have A5 := Aside0.mk A50
    clear A50
    simp only [Option.some.injEq, Prod.mk.injEq] at H
    obtain ⟨rfl, rfl, rfl⟩ := H
    go_enter Try.func34, Try.ntmps34
    go_wp2_with (first | ((with_reducible refine gate_dst (N := 1) rfl ?_); refine box_event ?hg (N := 1) ?hd (cs := #[.int .i64 a0_0, .int .i64 a0_1]) (t := 33) ?hr ?_; (case hd => rfl); (case hg => rfl); (case hr => first | (go_simp; done) | (go_simp; rfl)); intro gb164 hg w6 hbox hb; have n0_ := Aside0.mk (below_step (by repeat (first | (with_reducible first | exact HB.out | apply below_alloc | apply pw_below_drewN | apply below_drew1) | exact HB.out)) hb); have n1_ := Aside0.mk (hbox); have n2_ := Aside0.mk ((by rw [hg]; exact (below_size (by repeat (first | (with_reducible first | exact HB.out | apply below_alloc | apply pw_below_drewN | apply below_drew1) | exact HB.out))) : w.heap.size ≤ gb164)); have n3_ := Aside0.mk ((by rw [hg]; exact (below_size (by repeat (first | (with_reducible first | exact HB.out | apply below_alloc | apply pw_below_drewN | apply below_drew1) | exact HB.out))) : w.heap.size ≤ gb164)); clear HB; have HB := n0_; have BK164 := n1_; have GW164 := n2_; have GE164 := n3_; clear n0_ n1_ n2_ n3_; clear hb hbox hg) | ((with_reducible refine gate_dst (N := 2) rfl ?_); refine box_event ?hg (N := 2) ?hd (cs := #[.int .i64 0, .slice none 0 0]) (t := 94) ?hr ?_; (case hd => rfl); (case hg => rfl); (case hr => first | (go_simp; done) | (go_simp; rfl)); intro gb165 hg w7 hbox hb; have n0_ := Aside0.mk (blk_below (g := gb164) (o := .cells #[.int .i64 a0_0, .int .i64 a0_1] 33 (0, 0)) (by (with_reducible repeat (first | refine blk_drewN ?_ _ | refine blk_drew ?_ | refine blk_alloc ?_ _)); exact BK164.out) hb); have n1_ := Aside0.mk (below_step (by repeat (first | (with_reducible first | exact HB.out | apply below_alloc | apply pw_below_drewN | apply below_drew1 | refine below_set ?_ GE164.out) | exact HB.out)) hb); have n2_ := Aside0.mk (hbox); have n3_ := Aside0.mk ((by rw [hg]; exact (below_size (by repeat (first | (with_reducible first | exact HB.out | apply below_alloc | apply pw_below_drewN | apply below_drew1 | refine below_set ?_ GE164.out) | exact HB.out))) : w.heap.size ≤ gb165)); have n4_ := Aside0.mk ((by rw [hg]; exact (below_size (by repeat (first | (with_reducible first | exact HB.out | apply below_alloc | apply pw_below_drewN | apply below_drew1 | refine below_set ?_ GE164.out) | exact HB.out))) : w.heap.size ≤ gb165)); have n5_ := Aside0.mk ((by rw [hg]; exact Nat.ne_of_lt (blk_lt (g := gb164) (o := .cells #[.int .i64 a0_0, .int .i64 a0_1] 33 (0, 0)) (by (with_reducible repeat (first | refine blk_drewN ?_ _ | refine blk_drew ?_ | refine blk_alloc ?_ _)); exact BK164.out)) : gb164 ≠ gb165)); have n6_ := Aside0.mk ((by rw [hg]; exact Nat.ne_of_gt (blk_lt (g := gb164) (o := .cells #[.int .i64 a0_0, .int .i64 a0_1] 33 (0, 0)) (by (with_reducible repeat (first | refine blk_drewN ?_ _ | refine blk_drew ?_ | refine blk_alloc ?_ _)); exact BK164.out)) : gb165 ≠ gb164)); clear BK164; clear HB; have BK164 := n0_; have HB := n1_; have BK165 := n2_; have GW165 := n3_; have GE165 := n4_; have NB164_165 := n5_; have NB165_164 := n6_; clear n0_ n1_ n2_ n3_ n4_ n5_ n6_; clear hb hbox hg; have hnb8 := NB164_165.out; have hnc8 := NB165_164.out; have hcz9_0 : w7.cell? ⟨gb164, 0, none⟩ = some (.int .i64 a0_0) := (blk_cell BK164.out 0).trans rfl; have hcz9_1 : w7.cell? ⟨gb164, 1, none⟩ = some (.int .i64 a0_1) := (blk_cell BK164.out 1).trans rfl; have hfz9_0 := blk_frozen BK164.out 0; have hfz9_1 := blk_frozen BK164.out 1) | ((with_reducible refine gate_callee (f := 28) rfl ?_); refine goesL_ (some 7) rfl rfl Try.func28 (by kernel_rfl) rfl #[.agg #[.int .i64 a0_0, .int .i64 a0_1]] rfl (by (try simp only [List.map_toArray, List.map_cons, List.map_nil]); first | done | rfl | (simp only [List.length_drop, List.length_take]; rfl)) ?_; (with_reducible refine (drift_Check.calls a0_0 a0_1 t166 _ A2.out).mono ?_); rintro e w10 ⟨rfl, hb⟩; refine ⟨_, rfl, ?_⟩; have n0_ := Aside0.mk (blk_below (g := gb164) (o := .cells #[.int .i64 a0_0, .int .i64 a0_1] 33 (0, 0)) (by (with_reducible repeat (first | refine blk_drewN ?_ _ | refine blk_drew ?_ | refine blk_alloc ?_ _)); exact BK164.out) hb); have n1_ := Aside0.mk (blk_below (g := gb165) (o := .cells #[.int .i64 0, .slice none 0 0] 94 (0, 0)) (by (with_reducible repeat (first | refine blk_drewN ?_ _ | refine blk_drew ?_ | refine blk_alloc ?_ _)); exact BK165.out) hb); have n2_ := Aside0.mk (below_step (by repeat (first | (with_reducible first | exact HB.out | apply below_alloc | apply pw_below_drewN | apply below_drew1 | refine below_set ?_ GE164.out | refine below_set ?_ GE165.out) | exact HB.out)) hb); clear BK164; clear BK165; clear HB; have BK164 := n0_; have BK165 := n1_; have HB := n2_; clear n0_ n1_ n2_; (try clear hb); (try clear hb2); (try clear hk); (try clear hi); have hcz11_0 : w10.cell? ⟨gb164, 0, none⟩ = some (.int .i64 a0_0) := (blk_cell BK164.out 0).trans rfl; have hcz11_1 : w10.cell? ⟨gb164, 1, none⟩ = some (.int .i64 a0_1) := (blk_cell BK164.out 1).trans rfl; have hfz11_0 := blk_frozen BK164.out 0; have hfz11_1 := blk_frozen BK164.out 1) | ((with_reducible refine gate_callee (f := 60) rfl ?_); refine goesL_ (some 14) rfl rfl Try.func60 (by kernel_rfl) rfl #[.slice none 0 0, .int .u64 (IntKind.u64.wrap (a0_0)), .int .i64 8] rfl (by (try simp only [List.map_toArray, List.map_cons, List.map_nil]); first | done | rfl | (simp only [List.length_drop, List.length_take]; rfl)) ?_; (refine (wire_Append.calls _ _ ([] : List Int) (IntKind.u64.wrap (a0_0)) 8 t167 t168 _ ?side1 ?side2 A4.out).mono ?_); (case side1 => exact Kd.C_nil _ _); (case side2 => exact Nat.le_refl _); rintro e w12 ⟨v169, rfl, ho0, hb⟩; refine ⟨_, rfl, ?_⟩; have n0_ := Aside0.mk (Kd.R_lower ho0 (below_size (by repeat (first | (with_reducible first | exact HB.out | apply below_alloc | apply pw_below_drewN | apply below_drew1 | refine below_set ?_ GE164.out | refine below_set ?_ GE165.out) | exact HB.out)))); have n1_ := Aside0.mk (blk_below (g := gb164) (o := .cells #[.int .i64 a0_0, .int .i64 a0_1] 33 (0, 0)) (by (with_reducible repeat (first | refine blk_drewN ?_ _ | refine blk_drew ?_ | refine blk_alloc ?_ _)); exact BK164.out) hb); have n2_ := Aside0.mk (blk_below (g := gb165) (o := .cells #[.int .i64 0, .slice none 0 0] 94 (0, 0)) (by (with_reducible repeat (first | refine blk_drewN ?_ _ | refine blk_drew ?_ | refine blk_alloc ?_ _)); exact BK165.out) hb); have n3_ := Aside0.mk (below_step (by repeat (first | (with_reducible first | exact HB.out | apply below_alloc | apply pw_below_drewN | apply below_drew1 | refine below_set ?_ GE164.out | refine below_set ?_ GE165.out) | exact HB.out)) hb); clear BK164; clear BK165; clear HB; have HO170 := n0_; have BK164 := n1_; have BK165 := n2_; have HB := n3_; clear n0_ n1_ n2_ n3_; (try clear hb); (try clear hb2); (try clear hk); (try clear hi); (try clear ho0); have hcz13_0 : w12.cell? ⟨gb164, 0, none⟩ = some (.int .i64 a0_0) := (blk_cell BK164.out 0).trans rfl; have hcz13_1 : w12.cell? ⟨gb164, 1, none⟩ = some (.int .i64 a0_1) := (blk_cell BK164.out 1).trans rfl; have hfz13_0 := blk_frozen BK164.out 0; have hfz13_1 := blk_frozen BK164.out 1; obtain ⟨Ao14, co14, eo14⟩ := Kd.R_slice HO170.out; subst eo14) | ((with_reducible refine gate_callee (f := 60) rfl ?_); refine goesL_ (some 22) rfl rfl Try.func60 (by kernel_rfl) rfl #[.slice Ao14 t167.length co14, .int .u64 (IntKind.u64.wrap (a0_1)), .int .i64 8] rfl (by (try simp only [List.map_toArray, List.map_cons, List.map_nil]); first | done | rfl | (simp only [List.length_drop, List.length_take]; rfl)) ?_; (with_reducible refine (wire_Append.calls _ _ t167 (IntKind.u64.wrap (a0_1)) 8 t171 t172 _ ?side1 ?side2 A5.out).mono ?_); (case side1 => repeat (first | exact (Kd.R_reads' HO170.out).2.2 | (with_reducible refine Kd.C_alloc ?_ _) | (with_reducible refine Kd.C_drewN ?_ _) | (with_reducible refine Kd.C_drew ?_))); (case side2 => exact (Kd.R_reads' HO170.out).2.1); rintro e w15 ⟨v173, rfl, ho0, hb⟩; refine ⟨_, rfl, ?_⟩; have n0_ := Aside0.mk (Kd.R_elder' (by (with_reducible repeat (first | apply Kd.R_alloc | apply Kd.R_drewN | apply Kd.R_drew)); exact HO170.out) (Kd.R_base ho0) hb); have n1_ := Aside0.mk (Kd.R_lower (Kd.R_new' ho0 (Kd.R_lt (by (with_reducible repeat (first | apply Kd.R_alloc | apply Kd.R_drewN | apply Kd.R_drew)); exact HO170.out))) (below_size (by repeat (first | (with_reducible first | exact HB.out | apply below_alloc | apply pw_below_drewN | apply below_drew1 | refine below_set ?_ GE164.out | refine below_set ?_ GE165.out) | exact HB.out)))); have n2_ := Aside0.mk (blk_below (g := gb164) (o := .cells #[.int .i64 a0_0, .int .i64 a0_1] 33 (0, 0)) (by (with_reducible repeat (first | refine blk_drewN ?_ _ | refine blk_drew ?_ | refine blk_alloc ?_ _)); exact BK164.out) hb); have n3_ := Aside0.mk (blk_below (g := gb165) (o := .cells #[.int .i64 0, .slice none 0 0] 94 (0, 0)) (by (with_reducible repeat (first | refine blk_drewN ?_ _ | refine blk_drew ?_ | refine blk_alloc ?_ _)); exact BK165.out) hb); have n4_ := Aside0.mk (below_step (by repeat (first | (with_reducible first | exact HB.out | apply below_alloc | apply pw_below_drewN | apply below_drew1 | refine below_set ?_ GE164.out | refine below_set ?_ GE165.out) | exact HB.out)) hb); clear HO170; clear BK164; clear BK165; clear HB; have HO170 := n0_; have HO174 := n1_; have BK164 := n2_; have BK165 := n3_; have HB := n4_; clear n0_ n1_ n2_ n3_ n4_; (try clear hb); (try clear hb2); (try clear hk); (try clear hi); (try clear ho0); obtain ⟨Ao16, co16, eo16⟩ := Kd.R_slice HO174.out; subst eo16; have hcz17_0 : w15.cell? ⟨gb165, 0, none⟩ = some (.int .i64 0) := (blk_cell BK165.out 0).trans rfl; have hcz17_1 : w15.cell? ⟨gb165, 1, none⟩ = some (.slice none 0 0) := (blk_cell BK165.out 1).trans rfl; have hfz17_0 := blk_frozen BK165.out 0; have hfz17_1 := blk_frozen BK165.out 1))
    refine bodyPost_ret (results_ct rfl _ _ gb165 94 #[.int .i64 28929, .slice Ao16 t171.length co16] (0, 0) _ rfl (by (with_reducible repeat (first | refine blk_drewN ?_ _ | refine blk_drew ?_ | refine blk_alloc ?_ _)); refine blk_put (cs := #[.int .i64 28929, .slice none 0 0]) ?_ 1 _ rfl; (with_reducible repeat (first | refine blk_drewN ?_ _ | refine blk_drew ?_ | refine blk_alloc ?_ _)); refine blk_put (cs := #[.int .i64 0, .slice none 0 0]) ?_ 0 _ rfl; (with_reducible repeat (first | refine blk_drewN ?_ _ | refine blk_drew ?_ | refine blk_alloc ?_ _)); exact BK165.out) Try.underlying94 rfl (by kernel_rfl)) rfl ?_
    exact ⟨_, by first | rfl | (simp [errW_none, errW_some] <;> rfl) | (simp [*, errW_none, errW_some] <;> rfl), by (with_reducible repeat (first | apply Kd.R_alloc | apply Kd.R_drewN | apply Kd.R_drew)); exact Kd.R_mono (Kd.R_far (p := ⟨gb165, 1, none⟩) (Kd.R_far (p := ⟨gb165, 0, none⟩) (Kd.R_types HO174.out BK165.out (by decide)) (fun _ hk => hk.2) (.int .i64 28929)) (fun _ hk => hk.2) (.slice Ao16 t171.length co16)) (fun _ hk => trivial), by repeat (first | (with_reducible first | exact HB.out | apply below_alloc | apply pw_below_drewN | apply below_drew1 | refine below_set ?_ GE164.out | refine below_set ?_ GE165.out) | exact HB.out)⟩
  · rw [if_neg c3] at H
    have c3b0 : (t166 == 0) = false := beq_eq_false_iff_ne.mpr c3
    have c3b1 : (t166 != 0) = true := bne_iff_ne.mpr c3
    simp only [Option.some.injEq, Prod.mk.injEq] at H
    obtain ⟨rfl, rfl, rfl⟩ := H
    go_enter Try.func34, Try.ntmps34
    go_wp2_with (first | ((with_reducible refine gate_dst (N := 1) rfl ?_); refine box_event ?hg (N := 1) ?hd (cs := #[.int .i64 a0_0, .int .i64 a0_1]) (t := 33) ?hr ?_; (case hd => rfl); (case hg => rfl); (case hr => first | (go_simp; done) | (go_simp; rfl)); intro gb164 hg w18 hbox hb; have n0_ := Aside0.mk (below_step (by repeat (first | (with_reducible first | exact HB.out | apply below_alloc | apply pw_below_drewN | apply below_drew1) | exact HB.out)) hb); have n1_ := Aside0.mk (hbox); have n2_ := Aside0.mk ((by rw [hg]; exact (below_size (by repeat (first | (with_reducible first | exact HB.out | apply below_alloc | apply pw_below_drewN | apply below_drew1) | exact HB.out))) : w.heap.size ≤ gb164)); have n3_ := Aside0.mk ((by rw [hg]; exact (below_size (by repeat (first | (with_reducible first | exact HB.out | apply below_alloc | apply pw_below_drewN | apply below_drew1) | exact HB.out))) : w.heap.size ≤ gb164)); clear HB; have HB := n0_; have BK164 := n1_; have GW164 := n2_; have GE164 := n3_; clear n0_ n1_ n2_ n3_; clear hb hbox hg) | ((with_reducible refine gate_dst (N := 2) rfl ?_); refine box_event ?hg (N := 2) ?hd (cs := #[.int .i64 0, .slice none 0 0]) (t := 94) ?hr ?_; (case hd => rfl); (case hg => rfl); (case hr => first | (go_simp; done) | (go_simp; rfl)); intro gb165 hg w19 hbox hb; have n0_ := Aside0.mk (blk_below (g := gb164) (o := .cells #[.int .i64 a0_0, .int .i64 a0_1] 33 (0, 0)) (by (with_reducible repeat (first | refine blk_drewN ?_ _ | refine blk_drew ?_ | refine blk_alloc ?_ _)); exact BK164.out) hb); have n1_ := Aside0.mk (below_step (by repeat (first | (with_reducible first | exact HB.out | apply below_alloc | apply pw_below_drewN | apply below_drew1 | refine below_set ?_ GE164.out) | exact HB.out)) hb); have n2_ := Aside0.mk (hbox); have n3_ := Aside0.mk ((by rw [hg]; exact (below_size (by repeat (first | (with_reducible first | exact HB.out | apply below_alloc | apply pw_below_drewN | apply below_drew1 | refine below_set ?_ GE164.out) | exact HB.out))) : w.heap.size ≤ gb165)); have n4_ := Aside0.mk ((by rw [hg]; exact (below_size (by repeat (first | (with_reducible first | exact HB.out | apply below_alloc | apply pw_below_drewN | apply below_drew1 | refine below_set ?_ GE164.out) | exact HB.out))) : w.heap.size ≤ gb165)); have n5_ := Aside0.mk ((by rw [hg]; exact Nat.ne_of_lt (blk_lt (g := gb164) (o := .cells #[.int .i64 a0_0, .int .i64 a0_1] 33 (0, 0)) (by (with_reducible repeat (first | refine blk_drewN ?_ _ | refine blk_drew ?_ | refine blk_alloc ?_ _)); exact BK164.out)) : gb164 ≠ gb165)); have n6_ := Aside0.mk ((by rw [hg]; exact Nat.ne_of_gt (blk_lt (g := gb164) (o := .cells #[.int .i64 a0_0, .int .i64 a0_1] 33 (0, 0)) (by (with_reducible repeat (first | refine blk_drewN ?_ _ | refine blk_drew ?_ | refine blk_alloc ?_ _)); exact BK164.out)) : gb165 ≠ gb164)); clear BK164; clear HB; have BK164 := n0_; have HB := n1_; have BK165 := n2_; have GW165 := n3_; have GE165 := n4_; have NB164_165 := n5_; have NB165_164 := n6_; clear n0_ n1_ n2_ n3_ n4_ n5_ n6_; clear hb hbox hg; have hnb20 := NB164_165.out; have hnc20 := NB165_164.out; have hcz21_0 : w19.cell? ⟨gb164, 0, none⟩ = some (.int .i64 a0_0) := (blk_cell BK164.out 0).trans rfl; have hcz21_1 : w19.cell? ⟨gb164, 1, none⟩ = some (.int .i64 a0_1) := (blk_cell BK164.out 1).trans rfl; have hfz21_0 := blk_frozen BK164.out 0; have hfz21_1 := blk_frozen BK164.out 1) | ((with_reducible refine gate_callee (f := 28) rfl ?_); refine goesL_ (some 7) rfl rfl Try.func28 (by kernel_rfl) rfl #[.agg #[.int .i64 a0_0, .int .i64 a0_1]] rfl (by (try simp only [List.map_toArray, List.map_cons, List.map_nil]); first | done | rfl | (simp only [List.length_drop, List.length_take]; rfl)) ?_; (with_reducible refine (drift_Check.calls a0_0 a0_1 t166 _ A2.out).mono ?_); rintro e w22 ⟨rfl, hb⟩; refine ⟨_, rfl, ?_⟩; have n0_ := Aside0.mk (blk_below (g := gb164) (o := .cells #[.int .i64 a0_0, .int .i64 a0_1] 33 (0, 0)) (by (with_reducible repeat (first | refine blk_drewN ?_ _ | refine blk_drew ?_ | refine blk_alloc ?_ _)); exact BK164.out) hb); have n1_ := Aside0.mk (blk_below (g := gb165) (o := .cells #[.int .i64 0, .slice none 0 0] 94 (0, 0)) (by (with_reducible repeat (first | refine blk_drewN ?_ _ | refine blk_drew ?_ | refine blk_alloc ?_ _)); exact BK165.out) hb); have n2_ := Aside0.mk (below_step (by repeat (first | (with_reducible first | exact HB.out | apply below_alloc | apply pw_below_drewN | apply below_drew1 | refine below_set ?_ GE164.out | refine below_set ?_ GE165.out) | exact HB.out)) hb); clear BK164; clear BK165; clear HB; have BK164 := n0_; have BK165 := n1_; have HB := n2_; clear n0_ n1_ n2_; (try clear hb); (try clear hb2); (try clear hk); (try clear hi); have hcz23_0 : w22.cell? ⟨gb165, 0, none⟩ = some (.int .i64 0) := (blk_cell BK165.out 0).trans rfl; have hcz23_1 : w22.cell? ⟨gb165, 1, none⟩ = some (.slice none 0 0) := (blk_cell BK165.out 1).trans rfl; have hfz23_0 := blk_frozen BK165.out 0; have hfz23_1 := blk_frozen BK165.out 1))
    refine bodyPost_ret (results_ct rfl _ _ gb165 94 #[.int .i64 0, .slice none 0 0] (0, 0) _ rfl (by (with_reducible repeat (first | refine blk_drewN ?_ _ | refine blk_drew ?_ | refine blk_alloc ?_ _)); refine blk_put (cs := #[.int .i64 0, .slice none 0 0]) ?_ 1 _ rfl; (with_reducible repeat (first | refine blk_drewN ?_ _ | refine blk_drew ?_ | refine blk_alloc ?_ _)); refine blk_put (cs := #[.int .i64 0, .slice none 0 0]) ?_ 0 _ rfl; (with_reducible repeat (first | refine blk_drewN ?_ _ | refine blk_drew ?_ | refine blk_alloc ?_ _)); exact BK165.out) Try.underlying94 rfl (by kernel_rfl)) rfl ?_
    exact ⟨_, by first | rfl | (simp [errW_none, errW_some] <;> rfl) | (simp [*, errW_none, errW_some] <;> rfl), by first | exact Kd.R_nil _ _ _ _ _ | exact Kd.N_nil _ _ _ _ _ | exact Kd.V_nil _ _ _ _ _ | exact Kd.Q_nil _ _ _ _ _ | exact Kd.S_nil _ _ _ _ _, by repeat (first | (with_reducible first | exact HB.out | apply below_alloc | apply pw_below_drewN | apply below_drew1 | refine below_set ?_ GE164.out | refine below_set ?_ GE165.out) | exact HB.out)⟩

end Go.Proofs.Ytjbjkjlfikfeeaa.P
/- What Find, Interval and Field answer, as plain functions on lists. -/
namespace Go.Proofs.Ytjbjkjlfikfeeaa.P
open Go.RowKit Go.Proofs.YtjbjkjlfikfeeaaW.PrintWords Go.Proofs.YtjbjkjlfikfeeaaW.PrintLast Go.Proofs.YtjbjkjlfikfeeaaW.PrintMore Go.Proofs.Ytjbjkjlfikfeeaa.Rd

def chkV (lo hi : Int) : Prop := lo ≤ hi ∧ -8000000000000000000 ≤ lo ∧ hi ≤ 8000000000000000000
instance (lo hi : Int) : Decidable (chkV lo hi) := by unfold chkV; infer_instance
theorem drift_chk (lo hi : Int) : drift_Check.f lo hi = some (if chkV lo hi then 0 else 3) := by
  by_cases h : chkV lo hi
  all_goals
    first | rw [if_pos h] | rw [if_neg h]
    unfold chkV at h
    unfold drift_Check.f
    repeat' split
    all_goals first | rfl | (exfalso; omega)
def isIv (x : S94) : Bool := decide (x.f0 = 28929)
def findV (l : List S94) : List Int × Bool := match l.find? isIv with | some x => (x.f1, true) | none => ([], false)
def readV (b : List Int) : Int × Int × Int := if b.length = 16 then if chkV (ivLo b) (ivHi b) then (ivLo b, ivHi b, 0) else (0, 0, 2) else (0, 0, 7)
def ivV (l : List S94) : Int × Int × Int := match l.find? isIv with | some x => readV x.f1 | none => (0, 0, 11)
theorem rd50 (l : List S94) (i : Nat) (hi : i < l.length) : rd_T94 l (i : Int) = l[i] := by
  unfold rd_T94
  rw [Int.toNat_natCast, List.getD_eq_getElem?_getD, List.getElem?_eq_getElem hi]; rfl
theorem sw30 (x : Int) (h0 : 0 ≤ x) (h1 : x ≤ 9223372036854775807) : wrap64 x = x := by unfold wrap64; omega
theorem find_loop (l : List S94) (hl : l.length ≤ 140737488355328) (hs : ∀ x ∈ l, x.f1.length < 140737488355328) : ∀ (d i k : Nat), i + d = l.length → d < k → ext_Find.l0 k 28929 l l.length i = some (findV (l.drop i)) := by
  intro d
  induction d with
  | zero =>
    intro i k hi hk
    obtain ⟨k, rfl⟩ : ∃ k', k = k' + 1 := ⟨k - 1, by omega⟩
    rw [ext_Find.l0, if_neg (by omega), List.drop_of_length_le (by omega)]
    rfl
  | succ d ih =>
    intro i k hi hk
    obtain ⟨k, rfl⟩ : ∃ k', k = k' + 1 := ⟨k - 1, by omega⟩
    have hil : i < l.length := by omega
    have e2 : wrap64 ((i : Int) + 1) = ((i + 1 : Nat) : Int) := (sw30 _ (by omega) (by omega)).trans (by omega)
    have e3 := hs _ (List.getElem_mem hil)
    rw [ext_Find.l0, if_pos (by omega), if_pos (by omega), if_pos (by omega), rd50 l i hil]
    by_cases h : l[i].f0 = 28929
    · rw [if_pos h, Option.bind_some, if_pos (by simpa using e3)]
      unfold findV
      rw [List.drop_eq_getElem_cons hil, List.find?_cons_of_pos (by simp [isIv, h])]
      rfl
    · rw [if_neg h, e2, ih (i + 1) k (by omega) (by omega)]
      unfold findV
      rw [List.drop_eq_getElem_cons hil, List.find?_cons_of_neg (by simp [isIv, h])]
theorem find_eq (l : List S94) (hl : l.length ≤ 140737488355328) (hs : ∀ x ∈ l, x.f1.length < 140737488355328) (k : Nat) (hk : l.length < k) : ext_Find.f k l 28929 = some (findV l) := by
  unfold ext_Find.f
  have := find_loop l hl hs l.length 0 k (by omega) hk
  rwa [List.drop_zero] at this
theorem interval_eq (l : List S94) (hl : l.length ≤ 140737488355328) (hs : ∀ x ∈ l, x.f1.length < 140737488355328 ∧ bytesOk x.f1) (k : Nat) (hk : l.length < k) : server_Interval.f k l = some (ivV l) := by
  unfold server_Interval.f
  rw [find_eq l hl (fun x hx => (hs x hx).1) k hk, Option.bind_some]
  unfold findV ivV
  cases h : l.find? isIv with
  | none => rfl
  | some x =>
    have hx : x ∈ l := List.mem_of_find?_eq_some h
    simp only [if_true]
    unfold readV
    by_cases hn : x.f1.length = 16
    · rw [if_pos hn, if_pos hn, if_pos (hs x hx).2, drift_chk, Option.bind_some]
      by_cases hc : chkV (ivLo x.f1) (ivHi x.f1)
      · rw [if_pos hc, if_pos rfl, if_pos hc]
      · rw [if_neg hc, if_neg (by omega), if_neg hc]
    · rw [if_neg hn, if_neg hn]
def fieldV (lo hi : Int) : Int × List Int × Int := if chkV lo hi then (28929, be (IntKind.u64.wrap lo) 8 ++ be (IntKind.u64.wrap hi) 8, 0) else (0, [], 2)
theorem u64_in (x : Int) : 0 ≤ IntKind.u64.wrap x ∧ IntKind.u64.wrap x < 18446744073709551616 := by rw [IntKind.wrap_u64]; omega
theorem u64_in2 (x : Int) : IntKind.u64.wrap x < 2 ^ (8 * 8) := (u64_in x).2
theorem field_eq (lo hi : Int) : server_Field.f lo hi = some (fieldV lo hi) := by
  unfold server_Field.f fieldV
  rw [drift_chk, Option.bind_some]
  by_cases h : chkV lo hi
  · have a1 := app_fits [] (IntKind.u64.wrap lo) 8 (by decide) (by decide) (u64_in lo).1 (u64_in2 lo) (by simp)
    have a2 := app_fits (be (IntKind.u64.wrap lo) 8) (IntKind.u64.wrap hi) 8 (by decide) (by decide) (u64_in hi).1 (u64_in2 hi) (by rw [be_length]; decide)
    rw [List.nil_append] at a1
    have e8 : ((8 : Nat) : Int) = 8 := rfl
    rw [e8] at a1 a2
    rw [if_pos h, if_pos rfl, if_pos h, a1, Option.bind_some, a2, Option.bind_some]
  · rw [if_neg h, if_neg (by omega), if_neg h]
theorem upDown8 (x : Int) : upDown x 8 = wrap64 x := by
  unfold upDown
  rw [show (2 : Int) ^ (64 - 8 * 8) = 1 from rfl, Int.mul_one, Int.ediv_one]
  unfold wrap64
  rw [IntKind.wrap_u64]
  omega
end Go.Proofs.Ytjbjkjlfikfeeaa.P
/- TopExchange: what the calls of the law compute, with no program in sight. -/
namespace Go.Proofs.Ytjbjkjlfikfeeaa.P
open Go.RowKit Go.Proofs.YtjbjkjlfikfeeaaW.PrintWords Go.Proofs.YtjbjkjlfikfeeaaW.PrintLast Go.Proofs.YtjbjkjlfikfeeaaW.PrintMore Go.Proofs.Ytjbjkjlfikfeeaa.Rd
/-- The timestamp of an instant of the first era. -/
def ofV (t : Int) : Int := t * 4294967296 / 1000000000
theorem tmul {t : Int} (h0 : 0 ≤ t) : Int.tmod (t * 4294967296 / 18446744073709551616) 1000000000 = t * 4294967296 / 18446744073709551616 % 1000000000 := Int.tmod_eq_emod_of_nonneg (by omega)
theorem of_ok (k : Nat) (t : Int) (h0 : 0 ≤ t) (h1 : t < 4294967296000000000) : stamp_Of.f (k + 1) t = some (ofV t) := by
  unfold stamp_Of.f
  rw [if_neg (by omega), IntKind.wrap_u64, show t % 18446744073709551616 = t by omega]
  have hm : bits_Mul64.f t 4294967296 = some (t * 4294967296 / 18446744073709551616, t * 4294967296 % 18446744073709551616) := if_pos ⟨⟨h0, by omega⟩, by decide⟩
  have hd : bits_Div64.f (t * 4294967296 / 18446744073709551616 % 1000000000) (t * 4294967296 % 18446744073709551616) 1000000000 = some ((t * 4294967296 / 18446744073709551616 % 1000000000 * 18446744073709551616 + t * 4294967296 % 18446744073709551616) / 1000000000, (t * 4294967296 / 18446744073709551616 % 1000000000 * 18446744073709551616 + t * 4294967296 % 18446744073709551616) % 1000000000) := if_pos ⟨⟨by omega, by omega⟩, ⟨by omega, by omega⟩, by decide, by omega⟩
  rw [stamp_Of.j0, hm, Option.bind_some]
  simp only
  rw [tmul h0, hd, Option.bind_some, if_pos h0]
  unfold ofV
  rw [show t * 4294967296 / 18446744073709551616 % 1000000000 * 18446744073709551616 + t * 4294967296 % 18446744073709551616 = t * 4294967296 by omega]
theorem ofV_in (t : Int) (h0 : 0 ≤ t) (h1 : t < 4294967296000000000) : 0 ≤ ofV t ∧ ofV t < 18446744073709551616 := by unfold ofV; omega
theorem ofV_pos (t : Int) (h0 : 0 < t) : 0 < ofV t := by unfold ofV; omega
theorem era_ok (t : Int) (h0 : 0 ≤ t) (h1 : t < 4294967296000000000) : stamp_Era.f t = some 0 := by
  have hq : Int.tdiv t 4294967296000000000 = 0 := Int.tdiv_eq_zero_of_lt h0 h1
  have hm : Int.tmod t 4294967296000000000 = t := Int.tmod_eq_of_lt h0 h1
  unfold stamp_Era.f fixed_Floor.f
  rw [show fixed_divides.f t 4294967296000000000 = some true by unfold fixed_divides.f; simp, Option.bind_some, if_pos rfl, if_neg (by decide), hq, hm]
  have hw : wrap64 0 = 0 := by unfold wrap64; omega
  rw [hw]
  split
  · rfl
  · rw [if_neg (by omega), if_neg (by decide)]; rfl
theorem u64_small (n : Int) (h₀ : 0 ≤ n) (h₁ : n < 2 ^ 64) : IntKind.u64.wrap n = n := by rw [IntKind.wrap_u64]; omega
theorem and_low (x : Int) (h0 : 0 ≤ x) (h1 : x < 18446744073709551616) : bits .and .u64 x 4294967295 = x % 4294967296 := bits_mask .u64 64 (by decide) u64_small 32 (by decide) x h0 h1
theorem or_words (hi lo : Int) (h0 : 0 ≤ hi) (h1 : hi < 4294967296) (h2 : 0 ≤ lo) (h3 : lo < 18446744073709551616) : bits .or .u64 (hi * 4294967296) (lo / 4294967296) = hi * 4294967296 + lo / 4294967296 :=
  bits_join .u64 64 (by decide) u64_small 32 _ _ (by omega) (by omega) (by omega) (by omega) (by omega) (by omega)
theorem mul_zero : fixed_Mul.f 0 4294967296000000000 = some (0, true) := by decide +kernel
theorem add_zero (x : Int) (h0 : 0 ≤ x) (h1 : x ≤ 9223372036854775807) : fixed_Add.f 0 x = some (x, true) := by
  have hx : wrap64 (0 + x) = x := by unfold wrap64; omega
  have e : bits .xor .i64 x x = 0 := by unfold bits; simp only [BitVec.xor_self]; rfl
  unfold fixed_Add.f
  rw [hx, e, show bits .and .i64 (bits .xor .i64 0 x) 0 = 0 by unfold bits; simp; rfl, if_neg (by decide)]
theorem ofV_near (t p : Int) (hd : t - p ≤ 281474976710656) (hd' : p - t ≤ 281474976710656) : ofV t - ofV p < 9223372036854775808 ∧ -9223372036854775808 ≤ ofV t - ofV p := by unfold ofV; omega
theorem words_join (X : Int) (h0 : 0 ≤ X) (h1 : X < 39614081257132168796771975168) : wrap64 (X / 18446744073709551616 * 4294967296 + X % 18446744073709551616 / 4294967296) = X / 4294967296 := by
  have e : X / 18446744073709551616 * 4294967296 + X % 18446744073709551616 / 4294967296 = X / 4294967296 := by omega
  have h2 : 0 ≤ X / 4294967296 := by omega
  have h3 : X / 4294967296 < 9223372036854775808 := by omega
  rw [e]
  generalize X / 4294967296 = y at *
  unfold wrap64
  omega
theorem low_zero (X t : Int) (hb : (X + 4294967295) / 4294967296 = t) (hz : X % 18446744073709551616 % 4294967296 = 0) : X / 4294967296 = t := by omega
theorem low_more (X t : Int) (h0 : 0 ≤ t) (h1 : t < 4294967296000000000) (hb : (X + 4294967295) / 4294967296 = t) (hz : X % 18446744073709551616 % 4294967296 ≠ 0) : wrap64 (X / 4294967296 + 1) = t := by
  have e : X / 4294967296 + 1 = t := by omega
  rw [e]
  unfold wrap64
  omega
set_option maxHeartbeats 1000000 in
/-- Time gives back the instant of a timestamp near a pivot of its era. -/
theorem time_ok (k : Nat) (t p : Int) (h0 : 0 ≤ t) (h1 : t < 4294967296000000000) (g0 : 0 ≤ p) (g1 : p < 4294967296000000000) (hd : t - p ≤ 281474976710656) (hd' : p - t ≤ 281474976710656) : stamp_Time.f (k + 4) (ofV t) p = some (t, 0) := by
  have hs := ofV_in t h0 h1
  have hl := ofV_in p g0 g1
  have hne : ofV t - ofV p < 9223372036854775808 := (ofV_near t p hd hd').1
  have hne' : -9223372036854775808 ≤ ofV t - ofV p := (ofV_near t p hd hd').2
  have hb : (ofV t * 1000000000 + 4294967295) / 4294967296 = t := Pure.stamp_back t
  unfold stamp_Time.f
  rw [if_neg (by omega), show decide (p > 8000000000000000000) = false from decide_eq_false (by omega)]
  generalize ofV t = s at *
  have j3 : stamp_Time.j3 (k + 1) 0 t = some (t, 0) := by
    rw [stamp_Time.j3, mul_zero, Option.bind_some, add_zero t h0 (by omega), Option.bind_some]
    simp only [if_true]
    rw [if_neg (by omega), if_neg (by omega)]
  have j2 : stamp_Time.j2 (k + 2) s 0 = some (t, 0) := by
    have hm : bits_Mul64.f s 1000000000 = some (s * 1000000000 / 18446744073709551616, s * 1000000000 % 18446744073709551616) := if_pos ⟨⟨by omega, by omega⟩, by decide⟩
    rw [stamp_Time.j2, hm, Option.bind_some]
    simp only
    rw [and_low _ (by omega) (by omega), u64_small (s * 1000000000 / 18446744073709551616 * 4294967296) (by omega) (by omega), or_words _ _ (by omega) (by omega) (by omega) (by omega)]
    have e := words_join (s * 1000000000) (by omega) (by omega)
    rw [e]
    by_cases hz : s * 1000000000 % 18446744073709551616 % 4294967296 = 0
    · rw [if_pos hz, low_zero (s * 1000000000) t hb hz, j3]
    · rw [if_neg hz, low_more (s * 1000000000) t h0 h1 hb hz, j3]
  have hw : wrap64 (IntKind.u64.wrap (s - ofV p)) = s - ofV p := by rw [IntKind.wrap_u64]; unfold wrap64; omega
  rw [stamp_Time.j0, if_neg (by decide), of_ok (k + 2) p g0 g1, Option.bind_some, era_ok p g0 g1, Option.bind_some]
  unfold stamp_Diff.f
  rw [Option.bind_some, hw]
  generalize ofV p = l at *
  by_cases hc : s - l ≥ 0
  · rw [if_pos hc, show decide (s < l) = false from decide_eq_false (by omega)]
    rw [stamp_Time.j1, if_neg (by decide), if_neg (by omega), j2]
  · rw [if_neg hc]
    rw [stamp_Time.j1, if_neg (by decide), if_pos (by omega), if_neg (by omega), j2]
theorem found_ok (k : Nat) (x now : Int) (h0 : -140737488355328 ≤ x) (h1 : x ≤ 140737488355328) (g0 : -140737488355328 ≤ now) (g1 : now ≤ 140737488355328) : assoc_found.f (k + 4) (ofV (3900000000000000000 + x)) now = some (x, true) := by
  unfold assoc_found.f
  rw [show wrap64 (3900000000000000000 + now) = 3900000000000000000 + now by unfold wrap64; omega, time_ok k _ _ (by omega) (by omega) (by omega) (by omega) (by omega) (by omega), Option.bind_some]
  simp only [if_true]
  rw [show wrap64 (3900000000000000000 + x - 3900000000000000000) = x by unfold wrap64; omega]
  unfold assoc_inside.f
  rw [if_pos (by omega), Option.bind_some, decide_eq_true (by omega)]
theorem primary_ok : root_Primary.f 1000 5 = some (1, 0, 1000, 5, 0) := by decide +kernel
theorem tol_ok : sample_tolerance.f 0 = some true := by decide +kernel
theorem growth_ok (d : Int) (h0 : 0 ≤ d) (h1 : d ≤ 9223372036854775807) : sample_growth.f d 0 = some 0 := by
  unfold sample_growth.f fixed_MulDiv.f
  have hw : wrap64 (-d) = -d := by unfold wrap64; omega
  rw [hw, if_pos ⟨⟨by omega, by omega⟩, ⟨by decide, by decide⟩, by decide, by decide⟩, Option.bind_some]
  unfold B.mulDiv
  rw [if_neg (by decide), Int.mul_zero]
  decide +kernel
theorem smp_inside (x : Int) (h0 : -4503599627370496 ≤ x) (h1 : x ≤ 4503599627370496) : sample_inside.f x = some true := by
  unfold sample_inside.f
  rw [if_pos h0, decide_eq_true h1]
theorem smp_check (o d at' : Int) (h0 : -4503599627370496 ≤ o) (h1 : o ≤ 4503599627370496) (g0 : 0 ≤ d) (g1 : d ≤ 9007199254740992) (k0 : -4503599627370496 ≤ at') (k1 : at' ≤ 4503599627370496) : sample_Check.f o d 1 at' = some 0 := by
  unfold sample_Check.f
  rw [smp_inside o h0 h1, Option.bind_some, if_pos rfl, smp_inside at' k0 k1, Option.bind_some, if_pos rfl, if_neg (by omega), if_neg (by omega), if_neg (by decide), if_neg (by decide)]
theorem smp_valid (o d at' : Int) (h0 : -4503599627370496 ≤ o) (h1 : o ≤ 4503599627370496) (g0 : 0 ≤ d) (g1 : d ≤ 9007199254740992) (k0 : -4503599627370496 ≤ at') (k1 : at' ≤ 4503599627370496) : sample_valid.f o d 1 at' = some (o, d, 1, at', 0) := by
  unfold sample_valid.f
  rw [smp_check o d at' h0 h1 g0 g1 k0 k1, Option.bind_some, if_pos rfl]
theorem smp_dist (o d at' : Int) (h0 : -4503599627370496 ≤ o) (h1 : o ≤ 4503599627370496) (g0 : 0 ≤ d) (g1 : d ≤ 9007199254740992) (k0 : -4503599627370496 ≤ at') (k1 : at' ≤ 4503599627370496) : sample_Distance.f o d 1 at' = some ((d + 1) / 2 + 1) := by
  unfold sample_Distance.f
  rw [smp_check o d at' h0 h1 g0 g1 k0 k1, Option.bind_some, if_pos rfl]
  rw [show wrap64 (d + 1) = d + 1 by unfold wrap64; omega, Int.tdiv_eq_ediv_of_nonneg (by omega), show wrap64 ((d + 1) / 2) = (d + 1) / 2 by unfold wrap64; omega, show wrap64 ((d + 1) / 2 + 1) = (d + 1) / 2 + 1 by unfold wrap64; omega]
theorem smp_bounds (o d at' : Int) (h0 : -4503599627370496 ≤ o) (h1 : o ≤ 4503599627370496) (g0 : 0 ≤ d) (g1 : d ≤ 9007199254740992) (k0 : -4503599627370496 ≤ at') (k1 : at' ≤ 4503599627370496) : sample_Bounds.f o d 1 at' = some (o - ((d + 1) / 2 + 1), o + ((d + 1) / 2 + 1)) := by
  unfold sample_Bounds.f
  rw [smp_valid o d at' h0 h1 g0 g1 k0 k1, Option.bind_some]
  simp only [if_true, beq_self_eq_true, Bool.not_true, Bool.or_self, Bool.false_eq_true, if_false]
  rw [smp_dist o d at' h0 h1 g0 g1 k0 k1, Option.bind_some, show wrap64 (o - ((d + 1) / 2 + 1)) = o - ((d + 1) / 2 + 1) by unfold wrap64; omega, show wrap64 (o + ((d + 1) / 2 + 1)) = o + ((d + 1) / 2 + 1) by unfold wrap64; omega]
theorem long_zero : stamp_Long.f 0 = some 0 := by decide +kernel
theorem long_one : stamp_Long.f 1 = some 15259 := by decide +kernel
theorem root_ok (s d p i : Int) (h : rootOk s d p) : root_valid.f s d p i = some (s, d, p, i, 0) := by
  unfold root_valid.f
  rw [root_check, if_pos h, Option.bind_some, if_pos rfl]
theorem root_dist (s d p i : Int) (h : rootOk s d p) : root_Distance.f s d p i = some ((d + 1) / 2 + p) := by
  unfold root_Distance.f
  rw [root_check, if_pos h, Option.bind_some, if_pos rfl]
  unfold rootOk at h
  rw [show wrap64 (d + 1) = d + 1 by unfold wrap64; omega, Int.tdiv_eq_ediv_of_nonneg (by omega), show wrap64 ((d + 1) / 2) = (d + 1) / 2 by unfold wrap64; omega, show wrap64 ((d + 1) / 2 + p) = (d + 1) / 2 + p by unfold wrap64; omega]
/-- The header of the reply: what its checks say. -/
theorem rep_valid : valid19 0 4 4 1 0 (-20) := by unfold valid19; decide
theorem rep_check (d1 d2 d3 d4 d5 d6 d7 : Int) : ntpmsg_Check.f 0 4 4 1 0 (-20) d1 d2 d3 d4 d5 d6 d7 = some 0 := by rw [check_spec, if_pos rep_valid]
theorem rep_synced (d1 d2 d3 d4 d5 d6 d7 : Int) : ntpmsg_Synced.f 0 4 4 1 0 (-20) d1 d2 d3 d4 d5 d6 d7 = some true := by
  unfold ntpmsg_Synced.f
  rw [if_neg (by decide), in_eq]
  rfl
theorem rep_kiss (d1 d2 d4 d5 d6 d7 : Int) : ntpmsg_Kiss.f 60 0 4 4 1 0 (-20) d1 d2 5 d4 d5 d6 d7 = some ((⟨#[]⟩ : ByteArray), false) := by
  unfold ntpmsg_Kiss.f
  have h1 : ntpmsg_put.f 60 [(⟨IntKind.u64.wrap 5, 4⟩ : S133)] = some [0, 0, 0, 5] := by decide +kernel
  have h2 : ntpmsg_Code.f 60 (strOfNums [0, 0, 0, 5]) = some (0, 19) := by decide +kernel
  rw [h1, Option.bind_some, h2, Option.bind_some, if_neg (by decide)]
theorem rep_ok (n rec xmt : Int) : server_Reply.f 1 0 4 3 0 0 0 0 0 0 0 0 0 n rec xmt 0 1 0 1000 5 0 (-20) = some (0, 4, 4, 1, 0, -20, 0, 1, 5, 0, n, rec, xmt, 0) := by
  rw [reply_ok 0]
  have hv : decide (valid19 0 4 3 0 0 0) = true := decide_eq_true (by unfold valid19; decide)
  have hr : rootOk 1 0 1000 := by unfold rootOk; decide
  have hf : fieldsV 1 0 1000 = (0, 1, 0) := by decide +kernel
  rw [hv]
  unfold replyV
  rw [if_neg (by simp [hr]), if_pos rfl, hf, if_pos rfl, if_neg (by decide)]
theorem rep_enc (n rec xmt : Int) (hn : 0 ≤ n ∧ n < 2 ^ 64) (h1 : 0 ≤ rec ∧ rec < 2 ^ 64) (h2 : 0 ≤ xmt ∧ xmt < 2 ^ 64) : ntpmsg_Encode.f 30 0 4 4 1 0 (-20) 0 1 5 0 n rec xmt = some (hdr 0 4 4 1 0 (-20) 0 1 5 0 n rec xmt, 0) :=
  enc_ok 30 (by decide) 0 4 4 1 0 (-20) 0 1 5 0 n rec xmt rep_valid (by decide) (by decide) (by decide) (by decide) hn h1 h2
theorem join_ok (n rec xmt o d at' : Int) (h0 : -4503599627370496 ≤ o) (h1 : o ≤ 4503599627370496) (g0 : 0 ≤ d) (g1 : d ≤ 9007199254740992) (k0 : -4503599627370496 ≤ at') (k1 : at' ≤ 4503599627370496) :
    root_Join.f 5 0 4 4 1 0 (-20) 0 1 5 0 n rec xmt o d 1 at' 7 = some (2, d, 15260 + mx o (-o), 7, 0) := by
  have hm : mx o (-o) ≤ 4503599627370496 ∧ 0 ≤ mx o (-o) := by unfold mx; split <;> omega
  unfold root_Join.f
  rw [rep_check, Option.bind_some, if_pos rfl, smp_check o d at' h0 h1 g0 g1 k0 k1, Option.bind_some]
  rw [root_Join.j0, if_neg (by decide), rep_synced, Option.bind_some, if_pos rfl, long_zero, Option.bind_some, long_one, Option.bind_some]
  rw [show wrap64 (1 + 1) = 2 by decide +kernel, show wrap64 (0 + d) = d by unfold wrap64; omega, show wrap64 (15259 + 1) = 15260 by decide +kernel, show wrap64 (-o) = -o by unfold wrap64; omega, show wrap64 (15260 + mx o (-o)) = 15260 + mx o (-o) by unfold wrap64; omega]
  rw [root_ok _ _ _ _ (by unfold rootOk; omega), Option.bind_some]
/-- The bytes of an interval, read back. -/
def ivB (lo hi : Int) : List Int := be (IntKind.u64.wrap lo) 8 ++ be (IntKind.u64.wrap hi) 8
theorem ivB_len (lo hi : Int) : (ivB lo hi).length = 16 := by unfold ivB; simp only [List.length_append, be_length]
theorem ivB_bytes (lo hi : Int) : bytesOk (ivB lo hi) := by
  intro y hy
  unfold ivB at hy
  rcases List.mem_append.1 hy with h | h <;> exact be_bytes _ _ y h
theorem wrap_back (x : Int) (h0 : -9223372036854775808 ≤ x) (h1 : x ≤ 9223372036854775807) : wrap64 (IntKind.u64.wrap x) = x := by
  rw [IntKind.wrap_u64]; unfold wrap64; omega
theorem ivB_read (lo hi : Int) (h : chkV lo hi) : readV (ivB lo hi) = (lo, hi, 0) := by
  have h' := h
  unfold chkV at h'
  have e1 : (ivB lo hi).take 8 = be (IntKind.u64.wrap lo) 8 := by unfold ivB; rw [List.take_left' (be_length _ _)]
  have e2 : ((ivB lo hi).drop 8).take 8 = be (IntKind.u64.wrap hi) 8 := by unfold ivB; rw [List.drop_left' (be_length _ _), List.take_of_length_le (by rw [be_length]; exact Nat.le_refl _)]
  have f1 : ivLo (ivB lo hi) = lo := by
    unfold ivLo
    rw [e1, acc_be _ 8 (u64_in lo).1 (u64_in2 lo) (Nat.le_refl _), upDown8, wrap_back _ (by omega) (by omega)]
  have f2 : ivHi (ivB lo hi) = hi := by
    unfold ivHi
    rw [e2, acc_be _ 8 (u64_in hi).1 (u64_in2 hi) (Nat.le_refl _), upDown8, wrap_back _ (by omega) (by omega)]
  unfold readV
  rw [if_pos (ivB_len lo hi), f1, f2, if_pos h]
/-- The field of an interval. -/
def ivF (lo hi : Int) : SE := ⟨28929, ivB lo hi⟩
theorem ivF_ok (lo hi : Int) : okE (ivF lo hi) := by unfold okE ivF; simp only; rw [ivB_len]; decide
theorem fld_ok (lo hi : Int) (h : chkV lo hi) : server_Field.f lo hi = some (28929, ivB lo hi, 0) := by
  rw [field_eq]; unfold fieldV; rw [if_pos h]; rfl
theorem iv_one (lo hi : Int) (h : chkV lo hi) : ivV [ivF lo hi] = (lo, hi, 0) := by
  unfold ivV
  rw [List.find?_cons_of_pos (by simp [isIv, ivF])]
  exact ivB_read lo hi h
theorem put_one (k : Nat) (acc : List Int) (x : SE) (hx : okE x) (ha : acc.length ≤ 100000) : ext_Append.l1 (k + 2) acc [x] 1 0 = some (acc ++ encE x, 0) := by
  unfold okE at hx
  have hb1 := be_length x.f0 2
  have hb2 := be_length ((4 + x.f1.length : Nat) : Int) 2
  have f1 := fitsE acc (IntKind.u64.wrap x.f0) (by rw [uwE _ (by omega) (by omega)]; omega) (by rw [uwE _ (by omega) (by omega)]; omega) (by omega)
  rw [uwE _ (by omega) (by omega)] at f1
  have e3 : IntKind.u64.wrap (wrap64 (4 + (x.f1.length : Int))) = ((4 + x.f1.length : Nat) : Int) := by rw [swE _ (by omega) (by omega), uwE _ (by omega) (by omega)]; omega
  have f2 := fitsE (acc ++ be x.f0 2) ((4 + x.f1.length : Nat) : Int) (by omega) (by omega) (by rw [List.length_append, hb1]; omega)
  have e4 : IntKind.u64.wrap x.f0 = x.f0 := uwE _ (by omega) (by omega)
  have hlen : ((acc ++ be x.f0 2) ++ be ((4 + x.f1.length : Nat) : Int) 2).length + x.f1.length < 140737488355328 := by rw [List.length_append, List.length_append, hb1, hb2]; omega
  rw [ext_Append.l1, if_pos (by decide), if_pos (by decide), if_pos (by simp), show rd_T94 [x] 0 = x from rfl, e4, f1, Option.bind_some, e3, f2, Option.bind_some, if_pos hlen]
  rw [show wrap64 (0 + 1) = 1 by decide +kernel, ext_Append.l1, if_neg (by decide)]
  unfold encE
  simp only [List.append_assoc]
theorem append_one (k : Nat) (b : List Int) (x : SE) (hx : okE x) (hb : b.length ≤ 1000) : ext_Append.f (k + 4) b [x] = some (b ++ encE x, 0) := by
  obtain ⟨e, h1, h2⟩ := ext_check x (k + 2)
  have he := h2.2 hx
  subst he
  unfold ext_Append.f
  rw [if_neg (by simp)]
  rw [ext_Append.l0, if_pos (by simp), if_pos (by decide), if_pos (by simp), show rd_T94 [x] 0 = x from rfl, h1, Option.bind_some, if_pos rfl]
  rw [show wrap64 (0 + 1) = 1 by decide +kernel, ext_Append.l0, if_neg (by simp), Option.bind_some, if_pos (by simp; omega), List.nil_append]
  exact put_one k b x hx (by omega)
end Go.Proofs.Ytjbjkjlfikfeeaa.P
