-- Written by xp.py, a program of this session, over the print of the loaded program; Lean checks it.
import Derived.Test.YtgbajigcmadofaaPx0
import Derived.Test.YtgbajigcmadofaaPx2
import Derived.Test.YtgbajigcmadofaaPx5
import Derived.Test.YtgbajigcmadofaaPx7
import Derived.Test.YtgbajigcmadofaaXJit26
import Derived.Test.YtgbajigcmadofaaXMean26
namespace Go.Proofs.Ytgbajigcmadofaa.P
open Go.RowKit Go.Proofs.YtgbajigcmadofaaW.PrintWords Go.Proofs.YtgbajigcmadofaaW.PrintLast Go.Proofs.YtgbajigcmadofaaW.PrintMore
attribute [local go_sem] max2_int min2_int max_two min_two max_three min_three max_four min_four Go.Proofs.Ytgbajigcmadofaa.Op.isSome_setCell   -- for this text's walks alone
set_option linter.unusedVariables false
set_option linter.unusedSimpArgs false

/-! ### timesynclaw26_awake: function 8 -/
def timesynclaw26_awake.f (k : Nat)  : Option (Bool) := (some (([(⟨1, 10, 0, 0, 1⟩ : S34), (⟨2, 20, 1000, 0, 1⟩ : S34)] : List (S34)) : List (S34))).bind fun y127 => ((combine_Mean.f k y127).bind fun bt130 => ((combine_Weights.f k y127).bind fun t132 => ((slices_Equal_int_int.f k t132 (([1073741824, 536870912] : List Int))).bind fun t138 => (if t138 = true then (if bt130.1 = 13 then (if bt130.2 = 0 then ((combine_Jitter.f k y127).bind fun t139 => (if t139 = 4 then ((combine_Dist.f k y127).bind fun t140 => (if t140 = 3 then (some true) else (none))) else (none))) else (none)) else (none)) else (none)))))
theorem timesynclaw26_awake.mono : ∀ k, LeO (timesynclaw26_awake.f k ) (timesynclaw26_awake.f (k + 1) ) := by
  intro  k
  unfold timesynclaw26_awake.f
  repeat' first
      | (with_reducible exact combine_Dist.mono _ _)
      | (with_reducible exact combine_Jitter.mono _ _)
      | (with_reducible exact combine_Mean.mono _ _)
      | (with_reducible exact combine_Weights.mono _ _)
      | (with_reducible exact slices_Equal_int_int.mono _ _ _)
      | (with_reducible exact LeO.refl _)
      | (with_reducible exact LeO.none _)
      | (with_reducible refine LeO.ite ?_ ?_)
      | (with_reducible refine LeO.bind ?_ (fun _ => ?_))
      | exact combine_Dist.mono _ _
      | exact combine_Jitter.mono _ _
      | exact combine_Mean.mono _ _
      | exact combine_Weights.mono _ _
      | exact slices_Equal_int_int.mono _ _ _
      | exact LeO.none _
      | refine LeO.ite ?_ ?_
      | refine LeO.bind ?_ (fun _ => ?_)
set_option maxHeartbeats 8000000 in
set_option maxRecDepth 100000 in
theorem timesynclaw26_awake.calls (k : Nat)  (r : Bool) (w : World) (h : timesynclaw26_awake.f k  = some r) :
    Calls Try.prog 8 #[] w fun e w' => e = .returned (.bool r) ∧ Below w.heap.size w w' := by
  have hu34 := Try.underlying34
  have HB := Aside0.mk (Below.refl w.heap.size w)
  have H : ((some (([(⟨1, 10, 0, 0, 1⟩ : S34), (⟨2, 20, 1000, 0, 1⟩ : S34)] : List (S34)) : List (S34))).bind fun y127 => ((combine_Mean.f k y127).bind fun bt130 => ((combine_Weights.f k y127).bind fun t132 => ((slices_Equal_int_int.f k t132 (([1073741824, 536870912] : List Int))).bind fun t138 => (if t138 = true then (if bt130.1 = 13 then (if bt130.2 = 0 then ((combine_Jitter.f k y127).bind fun t139 => (if t139 = 4 then ((combine_Dist.f k y127).bind fun t140 => (if t140 = 3 then (some true) else (none))) else (none))) else (none)) else (none)) else (none)))))) = some r := h
  clear h
  obtain ⟨y127, hy127⟩ : ∃ y_ : List (S34), y_ = (([(⟨1, 10, 0, 0, 1⟩ : S34), (⟨2, 20, 1000, 0, 1⟩ : S34)] : List (S34))) := ⟨_, rfl⟩
  replace H : ((combine_Mean.f k y127).bind fun bt130 => ((combine_Weights.f k y127).bind fun t132 => ((slices_Equal_int_int.f k t132 (([1073741824, 536870912] : List Int))).bind fun t138 => (if t138 = true then (if bt130.1 = 13 then (if bt130.2 = 0 then ((combine_Jitter.f k y127).bind fun t139 => (if t139 = 4 then ((combine_Dist.f k y127).bind fun t140 => (if t140 = 3 then (some true) else (none))) else (none))) else (none)) else (none)) else (none))))) = some r := by first | (rw [hy127]; with_reducible exact H) | (have H2_ := (Option.bind_some _ _).symm.trans H; rw [hy127]; with_reducible exact H2_) | (have H2_ := (Option.bind_some _ _).symm.trans H; with_reducible exact H2_) | with_reducible exact H | (rw [hy127]; exact H) | exact H
  have Ny127 := Aside0.mk hy127
  clear hy127
  replace H := Option.bind_eq_some_iff.mp H
  obtain ⟨⟨t130, t131⟩, A10, H⟩ := H
  replace H : ((combine_Weights.f k y127).bind fun t132 => ((slices_Equal_int_int.f k t132 (([1073741824, 536870912] : List Int))).bind fun t138 => (if t138 = true then (if t130 = 13 then (if t131 = 0 then ((combine_Jitter.f k y127).bind fun t139 => (if t139 = 4 then ((combine_Dist.f k y127).bind fun t140 => (if t140 = 3 then (some true) else (none))) else (none))) else (none)) else (none)) else (none)))) = some r := H
  have A1 := Aside0.mk A10
  clear A10
  replace H := Option.bind_eq_some_iff.mp H
  obtain ⟨t132, A20, H⟩ := H
  replace H : ((slices_Equal_int_int.f k t132 (([1073741824, 536870912] : List Int))).bind fun t138 => (if t138 = true then (if t130 = 13 then (if t131 = 0 then ((combine_Jitter.f k y127).bind fun t139 => (if t139 = 4 then ((combine_Dist.f k y127).bind fun t140 => (if t140 = 3 then (some true) else (none))) else (none))) else (none)) else (none)) else (none))) = some r := H
  have A2 := Aside0.mk A20
  clear A20
  obtain ⟨y135, hy135⟩ : ∃ y_ : List Int, y_ = (([1073741824, 536870912] : List Int)) := ⟨_, rfl⟩
  replace H : ((slices_Equal_int_int.f k t132 y135).bind fun t138 => (if t138 = true then (if t130 = 13 then (if t131 = 0 then ((combine_Jitter.f k y127).bind fun t139 => (if t139 = 4 then ((combine_Dist.f k y127).bind fun t140 => (if t140 = 3 then (some true) else (none))) else (none))) else (none)) else (none)) else (none))) = some r := by first | (rw [hy135]; with_reducible exact H) | (have H2_ := (Option.bind_some _ _).symm.trans H; rw [hy135]; with_reducible exact H2_) | (have H2_ := (Option.bind_some _ _).symm.trans H; with_reducible exact H2_) | with_reducible exact H | (rw [hy135]; exact H) | exact H
  have Ny135 := Aside0.mk hy135
  clear hy135
  replace H := Option.bind_eq_some_iff.mp H
  obtain ⟨t138, A30, H⟩ := H
  replace H : (if t138 = true then (if t130 = 13 then (if t131 = 0 then ((combine_Jitter.f k y127).bind fun t139 => (if t139 = 4 then ((combine_Dist.f k y127).bind fun t140 => (if t140 = 3 then (some true) else (none))) else (none))) else (none)) else (none)) else (none)) = some r := H
  have A3 := Aside0.mk A30
  clear A30
  by_cases c4 : t138 = true
  · subst c4
    have H1 : (if t130 = 13 then (if t131 = 0 then ((combine_Jitter.f k y127).bind fun t139 => (if t139 = 4 then ((combine_Dist.f k y127).bind fun t140 => (if t140 = 3 then (some true) else (none))) else (none))) else (none)) else (none)) = some r := by rw [if_pos rfl] at H; exact H
    clear H
    have H := H1
    clear H1
    by_cases c5 : t130 = 13
    · rw [if_pos c5] at H
      have c5b0 : (t130 == 13) = true := beq_iff_eq.mpr c5
      have c5b1 : (t130 != 13) = false := bne_eq_false_iff_eq.mpr c5
      clear c5
      by_cases c6 : t131 = 0
      · rw [if_pos c6] at H
        have c6b0 : (t131 == 0) = true := beq_iff_eq.mpr c6
        have c6b1 : (t131 != 0) = false := bne_eq_false_iff_eq.mpr c6
        clear c6
        replace H := Option.bind_eq_some_iff.mp H
        obtain ⟨t139, A70, H⟩ := H
        replace H : (if t139 = 4 then ((combine_Dist.f k y127).bind fun t140 => (if t140 = 3 then (some true) else (none))) else (none)) = some r := H
        have A7 := Aside0.mk A70
        clear A70
        by_cases c8 : t139 = 4
        · rw [if_pos c8] at H
          have c8b0 : (t139 == 4) = true := beq_iff_eq.mpr c8
          have c8b1 : (t139 != 4) = false := bne_eq_false_iff_eq.mpr c8
          clear c8
          replace H := Option.bind_eq_some_iff.mp H
          obtain ⟨t140, A90, H⟩ := H
          replace H : (if t140 = 3 then (some true) else (none)) = some r := H
          have A9 := Aside0.mk A90
          clear A90
          by_cases c10 : t140 = 3
          · rw [if_pos c10] at H
            have c10b0 : (t140 == 3) = true := beq_iff_eq.mpr c10
            have c10b1 : (t140 != 3) = false := bne_eq_false_iff_eq.mpr c10
            clear c10
            obtain rfl := Option.some.inj H
            go_enter Try.func8, Try.ntmps8
            go_wp2_with (first | ((with_reducible refine gate_dst (N := 6) rfl ?_); refine Kd.R_lit k34 _ 34 ?hg (N := 6) ?hd (xs := ([(⟨1, 10, 0, 0, 1⟩ : S34), (⟨2, 20, 1000, 0, 1⟩ : S34)] : List (S34))) (inner := [.int .i64 1, .int .i64 10, .int .i64 0, .int .i64 0, .int .i64 1, .int .i64 2, .int .i64 20, .int .i64 1000, .int .i64 0, .int .i64 1]) (ok := fun _ => True) (okp := fun _ => True) ?hr ?hp (fun _ hk => hk) trivial (Below.refl _ _) (Nat.le_refl _) (by simp) ?_; (case hd => rfl); (case hg => rfl); (case hr => first | (go_simp; done) | (go_simp; rfl)); (case hp => exact (Reps.c5 (show Kd.M k34 _ _ _ (⟨1, 10, 0, 0, 1⟩ : S34) [.int .i64 1, .int .i64 10, .int .i64 0, .int .i64 0, .int .i64 1] from (k34_mkM _ _ _ (⟨1, 10, 0, 0, 1⟩ : S34) )) (Reps.c5 (show Kd.M k34 _ _ _ (⟨2, 20, 1000, 0, 1⟩ : S34) [.int .i64 2, .int .i64 20, .int .i64 1000, .int .i64 0, .int .i64 1] from (k34_mkM _ _ _ (⟨2, 20, 1000, 0, 1⟩ : S34) )) (Reps.none _ _)))); intro v128 w11 ho12 hb hg_ hnew_; clear hg_ hnew_; (first | rw [← Ny127.out] at ho12 | (simp only [Int.reduceToNat] at ho12; rw [← Ny127.out] at ho12)); have n0_ := Aside0.mk (Kd.R_lower ho12 (below_size (by repeat (first | (with_reducible first | exact HB.out | apply below_alloc | apply pw_below_drewN | apply below_drew1) | exact HB.out)))); have n1_ := Aside0.mk (below_step (by repeat (first | (with_reducible first | exact HB.out | apply below_alloc | apply pw_below_drewN | apply below_drew1) | exact HB.out)) hb); clear HB; have HO129 := n0_; have HB := n1_; clear n0_ n1_; clear hb ho12; obtain ⟨Ao13, co13, eo13⟩ := Kd.R_slice HO129.out; subst eo13) | ((with_reducible refine gate_callee (f := 9) rfl ?_); refine goesL_ (some 9) rfl rfl Try.func9 (by kernel_rfl) rfl #[.slice Ao13 y127.length co13] rfl (by (try simp only [List.map_toArray, List.map_cons, List.map_nil]); first | done | rfl | (simp only [List.length_drop, List.length_take]; rfl)) ?_; (with_reducible refine (combine_Mean.calls k _ _ y127 t130 t131 _ ?side1 ?side2 A1.out).mono ?_); (case side1 => repeat (first | exact (Kd.R_reads' HO129.out).2.2 | (with_reducible refine Kd.C_alloc ?_ _) | (with_reducible refine Kd.C_drewN ?_ _) | (with_reducible refine Kd.C_drew ?_))); (case side2 => exact (Kd.R_reads' HO129.out).2.1); rintro e w14 ⟨rfl, hb⟩; refine ⟨_, rfl, ?_⟩; have n0_ := Aside0.mk (Kd.R_below (by (with_reducible repeat (first | apply Kd.R_alloc | apply Kd.R_drewN | apply Kd.R_drew)); exact HO129.out) hb); have n1_ := Aside0.mk (below_step (by repeat (first | (with_reducible first | exact HB.out | apply below_alloc | apply pw_below_drewN | apply below_drew1) | exact HB.out)) hb); clear HO129; clear HB; have HO129 := n0_; have HB := n1_; clear n0_ n1_; (try clear hb); (try clear hb2); (try clear hk); (try clear hi)) | ((with_reducible refine gate_callee (f := 12) rfl ?_); refine goesL_ (some 13) rfl rfl Try.func12 (by kernel_rfl) rfl #[.slice Ao13 y127.length co13] rfl (by (try simp only [List.map_toArray, List.map_cons, List.map_nil]); first | done | rfl | (simp only [List.length_drop, List.length_take]; rfl)) ?_; (with_reducible refine (combine_Weights.calls k _ _ y127 t132 _ ?side1 ?side2 A2.out).mono ?_); (case side1 => repeat (first | exact (Kd.R_reads' HO129.out).2.2 | (with_reducible refine Kd.C_alloc ?_ _) | (with_reducible refine Kd.C_drewN ?_ _) | (with_reducible refine Kd.C_drew ?_))); (case side2 => exact (Kd.R_reads' HO129.out).2.1); rintro e w15 ⟨v133, rfl, ho0, hb⟩; refine ⟨_, rfl, ?_⟩; have n0_ := Aside0.mk (Kd.R_below (by (with_reducible repeat (first | apply Kd.R_alloc | apply Kd.R_drewN | apply Kd.R_drew)); exact HO129.out) hb); have n1_ := Aside0.mk (Kd.R_lower ho0 (below_size (by repeat (first | (with_reducible first | exact HB.out | apply below_alloc | apply pw_below_drewN | apply below_drew1) | exact HB.out)))); have n2_ := Aside0.mk (below_step (by repeat (first | (with_reducible first | exact HB.out | apply below_alloc | apply pw_below_drewN | apply below_drew1) | exact HB.out)) hb); clear HO129; clear HB; have HO129 := n0_; have HO134 := n1_; have HB := n2_; clear n0_ n1_ n2_; (try clear hb); (try clear hb2); (try clear hk); (try clear hi); (try clear ho0)) | ((with_reducible refine gate_dst (N := 14) rfl ?_); refine Kd.R_lit (Kd.int .i64) _ 3 ?hg (N := 14) ?hd (xs := ([1073741824, 536870912] : List Int)) (inner := [.int .i64 1073741824, .int .i64 536870912]) (ok := fun _ => True) (okp := fun _ => True) ?hr ?hp (fun _ hk => hk) trivial (Below.refl _ _) (Nat.le_refl _) (by simp) ?_; (case hd => rfl); (case hg => rfl); (case hr => first | (go_simp; done) | (go_simp; rfl)); (case hp => exact (Reps.one (show Kd.M (Kd.int .i64) _ _ _ 1073741824 [.int .i64 1073741824] from rfl) (Reps.one (show Kd.M (Kd.int .i64) _ _ _ 536870912 [.int .i64 536870912] from rfl) (Reps.none _ _)))); intro v136 w16 ho17 hb hg_ hnew_; clear hg_ hnew_; (first | rw [← Ny135.out] at ho17 | (simp only [Int.reduceToNat] at ho17; rw [← Ny135.out] at ho17)); have n0_ := Aside0.mk (Kd.R_below (by (with_reducible repeat (first | apply Kd.R_alloc | apply Kd.R_drewN | apply Kd.R_drew)); exact HO129.out) hb); have n1_ := Aside0.mk (Kd.R_elder' (by (with_reducible repeat (first | apply Kd.R_alloc | apply Kd.R_drewN | apply Kd.R_drew)); exact HO134.out) (Kd.R_base ho17) hb); have n2_ := Aside0.mk (Kd.R_lower (Kd.R_new' ho17 (Kd.R_lt (by (with_reducible repeat (first | apply Kd.R_alloc | apply Kd.R_drewN | apply Kd.R_drew)); exact HO134.out))) (below_size (by repeat (first | (with_reducible first | exact HB.out | apply below_alloc | apply pw_below_drewN | apply below_drew1) | exact HB.out)))); have n3_ := Aside0.mk (below_step (by repeat (first | (with_reducible first | exact HB.out | apply below_alloc | apply pw_below_drewN | apply below_drew1) | exact HB.out)) hb); clear HO129; clear HO134; clear HB; have HO129 := n0_; have HO134 := n1_; have HO137 := n2_; have HB := n3_; clear n0_ n1_ n2_ n3_; clear hb ho17; obtain ⟨Ao18, co18, eo18⟩ := Kd.R_slice HO134.out; subst eo18; obtain ⟨Ao19, co19, eo19⟩ := Kd.R_slice HO137.out; subst eo19) | ((with_reducible refine gate_callee (f := 11) rfl ?_); refine goesL_ (some 15) rfl rfl Try.func11 (by kernel_rfl) rfl #[.slice Ao18 t132.length co18, .slice Ao19 y135.length co19] rfl (by (try simp only [List.map_toArray, List.map_cons, List.map_nil]); first | done | rfl | (simp only [List.length_drop, List.length_take]; rfl)) ?_; (with_reducible refine (slices_Equal_int_int.calls k _ _ t132 _ _ y135 true _ ?side1 ?side2 ?side3 ?side4 A3.out).mono ?_); (case side1 => repeat (first | exact (Kd.R_reads' HO134.out).2.2 | (with_reducible refine Kd.C_alloc ?_ _) | (with_reducible refine Kd.C_drewN ?_ _) | (with_reducible refine Kd.C_drew ?_))); (case side2 => exact (Kd.R_reads' HO134.out).2.1); (case side3 => repeat (first | exact (Kd.R_reads' HO137.out).2.2 | (with_reducible refine Kd.C_alloc ?_ _) | (with_reducible refine Kd.C_drewN ?_ _) | (with_reducible refine Kd.C_drew ?_))); (case side4 => exact (Kd.R_reads' HO137.out).2.1); rintro e w' ⟨rfl, ⟨nd, rfl⟩⟩; refine ⟨_, rfl, ?_⟩) | (go_at_call 16; (with_reducible refine (combine_Jitter.calls k _ _ y127 t139 _ ?side1 ?side2 A7.out).mono ?_); (case side1 => repeat (first | exact (Kd.R_reads' HO129.out).2.2 | (with_reducible refine Kd.C_alloc ?_ _) | (with_reducible refine Kd.C_drewN ?_ _) | (with_reducible refine Kd.C_drew ?_))); (case side2 => exact (Kd.R_reads' HO129.out).2.1); rintro e w20 ⟨rfl, hb⟩; have n0_ := Aside0.mk (Kd.R_below (by (with_reducible repeat (first | apply Kd.R_alloc | apply Kd.R_drewN | apply Kd.R_drew)); exact HO129.out) hb); have n1_ := Aside0.mk (Kd.R_below (by (with_reducible repeat (first | apply Kd.R_alloc | apply Kd.R_drewN | apply Kd.R_drew)); exact HO134.out) hb); have n2_ := Aside0.mk (Kd.R_below (by (with_reducible repeat (first | apply Kd.R_alloc | apply Kd.R_drewN | apply Kd.R_drew)); exact HO137.out) hb); have n3_ := Aside0.mk (below_step (by repeat (first | (with_reducible first | exact HB.out | apply below_alloc | apply pw_below_drewN | apply below_drew1) | exact HB.out)) hb); clear HO129; clear HO134; clear HO137; clear HB; have HO129 := n0_; have HO134 := n1_; have HO137 := n2_; have HB := n3_; clear n0_ n1_ n2_ n3_; (try clear hb); (try clear hb2); (try clear hk); (try clear hi)) | (go_at_call 15; (with_reducible refine (combine_Dist.calls k _ _ y127 t140 _ ?side1 ?side2 A9.out).mono ?_); (case side1 => repeat (first | exact (Kd.R_reads' HO129.out).2.2 | (with_reducible refine Kd.C_alloc ?_ _) | (with_reducible refine Kd.C_drewN ?_ _) | (with_reducible refine Kd.C_drew ?_))); (case side2 => exact (Kd.R_reads' HO129.out).2.1); rintro e w21 ⟨rfl, hb⟩; have n0_ := Aside0.mk (Kd.R_below (by (with_reducible repeat (first | apply Kd.R_alloc | apply Kd.R_drewN | apply Kd.R_drew)); exact HO129.out) hb); have n1_ := Aside0.mk (Kd.R_below (by (with_reducible repeat (first | apply Kd.R_alloc | apply Kd.R_drewN | apply Kd.R_drew)); exact HO134.out) hb); have n2_ := Aside0.mk (Kd.R_below (by (with_reducible repeat (first | apply Kd.R_alloc | apply Kd.R_drewN | apply Kd.R_drew)); exact HO137.out) hb); have n3_ := Aside0.mk (below_step (by repeat (first | (with_reducible first | exact HB.out | apply below_alloc | apply pw_below_drewN | apply below_drew1) | exact HB.out)) hb); clear HO129; clear HO134; clear HO137; clear HB; have HO129 := n0_; have HO134 := n1_; have HO137 := n2_; have HB := n3_; clear n0_ n1_ n2_ n3_; (try clear hb); (try clear hb2); (try clear hk); (try clear hi)))
            go_ret
            exact ⟨by first | rfl | (simp [errW_none, errW_some] <;> rfl) | (simp [*, errW_none, errW_some] <;> rfl), by repeat (first | (with_reducible first | exact HB.out | apply below_alloc | apply pw_below_drewN | apply below_drew1) | exact HB.out)⟩
          · rw [if_neg c10] at H
            exact absurd H (by simp)
        · rw [if_neg c8] at H
          exact absurd H (by simp)
      · rw [if_neg c6] at H
        exact absurd H (by simp)
    · rw [if_neg c5] at H
      exact absurd H (by simp)
  · replace c4 := Bool.eq_false_iff.mpr c4
    subst c4
    have H1 : (none) = some r := by rw [if_neg (show ¬ (false = true) by decide)] at H; exact H
    clear H
    have H := H1
    clear H1
    exact absurd H (by simp)

end Go.Proofs.Ytgbajigcmadofaa.P
