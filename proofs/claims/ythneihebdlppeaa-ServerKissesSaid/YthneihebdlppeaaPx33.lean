-- Written by xp.py, a program of this session, over the print of the loaded program; Lean checks it.
import Derived.Test.YthneihebdlppeaaPx0
import Derived.Test.YthneihebdlppeaaPx1
import Derived.Test.YthneihebdlppeaaPx19
import Derived.Test.YthneihebdlppeaaPx24
import Derived.Test.YthneihebdlppeaaPx29
import Derived.Test.YthneihebdlppeaaPx31
import Derived.Test.YthneihebdlppeaaPx32
namespace Go.Proofs.Ythneihebdlppeaa.P
open Go.RowKit Go.Proofs.YthneihebdlppeaaW.PrintWords Go.Proofs.YthneihebdlppeaaW.PrintLast Go.Proofs.YthneihebdlppeaaW.PrintMore
attribute [local go_sem] max2_int min2_int max_two min_two max_three min_three max_four min_four Go.Proofs.Ythneihebdlppeaa.Op.isSome_setCell   -- for this text's walks alone
set_option linter.unusedVariables false
set_option linter.unusedSimpArgs false

attribute [local go_sem high] eqA25
/-! ### timesynclaw30_ServerKisses: function 5 -/
def timesynclaw30_ServerKisses.j0 : Nat → ByteArray → Int → Bool → Int → Int → Int → Int → Int → Int → Int → Int → Int → Int → Int → Int → Int → Option (Bool)
  | 0, _, _, _, _, _, _, _, _, _, _, _, _, _, _, _, _ => none
  | k + 1, x1, x6, x30, x304000, x304001, x304002, x304003, x304004, x304005, x304006, x304007, x304008, x304009, x304010, x304011, x304012 => if x30 = true then (none) else ((ntpmsg_Kiss.f k x304000 x304001 x304002 x304003 x304004 x304005 x304006 x304007 x304008 x304009 x304010 x304011 x304012).bind fun bt319 => (if x6 = 0 then (if bt319.2 = true then (if bt319.1.toList = x1.toList then ((ntpmsg_Synced.f x304000 x304001 x304002 x304003 x304004 x304005 x304006 x304007 x304008 x304009 x304010 x304011 x304012).bind fun t321 => (if t321 = true then (none) else ((timesynclaw30_awake.f k).bind fun t322 => (if t322 = true then (some true) else (none))))) else (none)) else (none)) else ((timesynclaw30_awake.f k).bind fun t323 => (if t323 = true then (some true) else (none)))))
def timesynclaw30_ServerKisses.f (k : Nat) (a0_0 : Int) (a0_1 : Int) (a0_2 : Int) (a0_3 : Int) (a0_4 : Int) (a0_5 : Int) (a0_6 : Int) (a0_7 : Int) (a0_8 : Int) (a0_9 : Int) (a0_10 : Int) (a0_11 : Int) (a0_12 : Int) (a1 : ByteArray) : Option (Bool) := (server_KissReply.f k a0_0 a0_1 a0_2 a0_3 a0_4 a0_5 a0_6 a0_7 a0_8 a0_9 a0_10 a0_11 a0_12 a1).bind fun bt289 => ((timesyncref30_KissReply.f k a0_0 a0_1 a0_2 a0_3 a0_4 a0_5 a0_6 a0_7 a0_8 a0_9 a0_10 a0_11 a0_12 a1).bind fun bt304 => (if (!(bt289.1 == bt304.1) || (!(bt289.2.1 == bt304.2.1) || (!(bt289.2.2.1 == bt304.2.2.1) || (!(bt289.2.2.2.1 == bt304.2.2.2.1) || (!(bt289.2.2.2.2.1 == bt304.2.2.2.2.1) || (!(bt289.2.2.2.2.2.1 == bt304.2.2.2.2.2.1) || (!(bt289.2.2.2.2.2.2.1 == bt304.2.2.2.2.2.2.1) || (!(bt289.2.2.2.2.2.2.2.1 == bt304.2.2.2.2.2.2.2.1) || (!(bt289.2.2.2.2.2.2.2.2.1 == bt304.2.2.2.2.2.2.2.2.1) || (!(bt289.2.2.2.2.2.2.2.2.2.1 == bt304.2.2.2.2.2.2.2.2.2.1) || (!(bt289.2.2.2.2.2.2.2.2.2.2.1 == bt304.2.2.2.2.2.2.2.2.2.2.1) || (!(bt289.2.2.2.2.2.2.2.2.2.2.2.1 == bt304.2.2.2.2.2.2.2.2.2.2.2.1) || (!(bt289.2.2.2.2.2.2.2.2.2.2.2.2.1 == bt304.2.2.2.2.2.2.2.2.2.2.2.2.1)))))))))))))) = true then (timesynclaw30_ServerKisses.j0 k a1 bt289.2.2.2.2.2.2.2.2.2.2.2.2.2 true bt289.1 bt289.2.1 bt289.2.2.1 bt289.2.2.2.1 bt289.2.2.2.2.1 bt289.2.2.2.2.2.1 bt289.2.2.2.2.2.2.1 bt289.2.2.2.2.2.2.2.1 bt289.2.2.2.2.2.2.2.2.1 bt289.2.2.2.2.2.2.2.2.2.1 bt289.2.2.2.2.2.2.2.2.2.2.1 bt289.2.2.2.2.2.2.2.2.2.2.2.1 bt289.2.2.2.2.2.2.2.2.2.2.2.2.1) else (timesynclaw30_ServerKisses.j0 k a1 bt289.2.2.2.2.2.2.2.2.2.2.2.2.2 (bt289.2.2.2.2.2.2.2.2.2.2.2.2.2 != bt304.2.2.2.2.2.2.2.2.2.2.2.2.2) bt289.1 bt289.2.1 bt289.2.2.1 bt289.2.2.2.1 bt289.2.2.2.2.1 bt289.2.2.2.2.2.1 bt289.2.2.2.2.2.2.1 bt289.2.2.2.2.2.2.2.1 bt289.2.2.2.2.2.2.2.2.1 bt289.2.2.2.2.2.2.2.2.2.1 bt289.2.2.2.2.2.2.2.2.2.2.1 bt289.2.2.2.2.2.2.2.2.2.2.2.1 bt289.2.2.2.2.2.2.2.2.2.2.2.2.1)))
theorem timesynclaw30_ServerKisses.mono_l : ∀ k, (∀ y0 y1 y2 y3 y4 y5 y6 y7 y8 y9 y10 y11 y12 y13 y14 y15, LeO (timesynclaw30_ServerKisses.j0 k y0 y1 y2 y3 y4 y5 y6 y7 y8 y9 y10 y11 y12 y13 y14 y15) (timesynclaw30_ServerKisses.j0 (k + 1) y0 y1 y2 y3 y4 y5 y6 y7 y8 y9 y10 y11 y12 y13 y14 y15))
  | 0 => fun _ _ _ _ _ _ _ _ _ _ _ _ _ _ _ _ r h => by simp [timesynclaw30_ServerKisses.j0] at h
  | k + 1 => by
    have ih0 := timesynclaw30_ServerKisses.mono_l k
    · intro y0 y1 y2 y3 y4 y5 y6 y7 y8 y9 y10 y11 y12 y13 y14 y15
      unfold timesynclaw30_ServerKisses.j0
      repeat' first
      | (with_reducible exact ih0 _ _ _ _ _ _ _ _ _ _ _ _ _ _ _ _)
      | (with_reducible exact ntpmsg_Kiss.mono _ _ _ _ _ _ _ _ _ _ _ _ _ _)
      | (with_reducible exact server_KissReply.mono _ _ _ _ _ _ _ _ _ _ _ _ _ _ _)
      | (with_reducible exact timesynclaw30_awake.mono _)
      | (with_reducible exact timesyncref30_KissReply.mono _ _ _ _ _ _ _ _ _ _ _ _ _ _ _)
      | (with_reducible exact LeO.refl _)
      | (with_reducible exact LeO.none _)
      | (with_reducible refine LeO.ite ?_ ?_)
      | (with_reducible refine LeO.bind ?_ (fun _ => ?_))
      | exact ih0 _ _ _ _ _ _ _ _ _ _ _ _ _ _ _ _
      | exact ntpmsg_Kiss.mono _ _ _ _ _ _ _ _ _ _ _ _ _ _
      | exact server_KissReply.mono _ _ _ _ _ _ _ _ _ _ _ _ _ _ _
      | exact timesynclaw30_awake.mono _
      | exact timesyncref30_KissReply.mono _ _ _ _ _ _ _ _ _ _ _ _ _ _ _
      | exact LeO.none _
      | refine LeO.ite ?_ ?_
      | refine LeO.bind ?_ (fun _ => ?_)
theorem timesynclaw30_ServerKisses.mono : ∀ a0 a1 a2 a3 a4 a5 a6 a7 a8 a9 a10 a11 a12 a13 k, LeO (timesynclaw30_ServerKisses.f k a0 a1 a2 a3 a4 a5 a6 a7 a8 a9 a10 a11 a12 a13) (timesynclaw30_ServerKisses.f (k + 1) a0 a1 a2 a3 a4 a5 a6 a7 a8 a9 a10 a11 a12 a13) := by
  intro a0 a1 a2 a3 a4 a5 a6 a7 a8 a9 a10 a11 a12 a13 k
  have ih0 := timesynclaw30_ServerKisses.mono_l k
  unfold timesynclaw30_ServerKisses.f
  repeat' first
      | (with_reducible exact ih0 _ _ _ _ _ _ _ _ _ _ _ _ _ _ _ _)
      | (with_reducible exact ntpmsg_Kiss.mono _ _ _ _ _ _ _ _ _ _ _ _ _ _)
      | (with_reducible exact server_KissReply.mono _ _ _ _ _ _ _ _ _ _ _ _ _ _ _)
      | (with_reducible exact timesynclaw30_awake.mono _)
      | (with_reducible exact timesyncref30_KissReply.mono _ _ _ _ _ _ _ _ _ _ _ _ _ _ _)
      | (with_reducible exact LeO.refl _)
      | (with_reducible exact LeO.none _)
      | (with_reducible refine LeO.ite ?_ ?_)
      | (with_reducible refine LeO.bind ?_ (fun _ => ?_))
      | exact ih0 _ _ _ _ _ _ _ _ _ _ _ _ _ _ _ _
      | exact ntpmsg_Kiss.mono _ _ _ _ _ _ _ _ _ _ _ _ _ _
      | exact server_KissReply.mono _ _ _ _ _ _ _ _ _ _ _ _ _ _ _
      | exact timesynclaw30_awake.mono _
      | exact timesyncref30_KissReply.mono _ _ _ _ _ _ _ _ _ _ _ _ _ _ _
      | exact LeO.none _
      | refine LeO.ite ?_ ?_
      | refine LeO.bind ?_ (fun _ => ?_)
set_option maxHeartbeats 8000000 in
set_option maxRecDepth 100000 in
theorem timesynclaw30_ServerKisses.calls (k : Nat) (a0_0 : Int) (a0_1 : Int) (a0_2 : Int) (a0_3 : Int) (a0_4 : Int) (a0_5 : Int) (a0_6 : Int) (a0_7 : Int) (a0_8 : Int) (a0_9 : Int) (a0_10 : Int) (a0_11 : Int) (a0_12 : Int) (a1 : ByteArray) (r : Bool) (w : World) (h : timesynclaw30_ServerKisses.f k a0_0 a0_1 a0_2 a0_3 a0_4 a0_5 a0_6 a0_7 a0_8 a0_9 a0_10 a0_11 a0_12 a1 = some r) :
    Calls Try.prog 5 #[.agg #[.int .i64 a0_0, .int .i64 a0_1, .int .i64 a0_2, .int .i64 a0_3, .int .i64 a0_4, .int .i64 a0_5, .int .u32 a0_6, .int .u32 a0_7, .int .u32 a0_8, .int .u64 a0_9, .int .u64 a0_10, .int .u64 a0_11, .int .u64 a0_12], .string a1] w fun e w' => e = .returned (.bool r) ∧ Below w.heap.size w w' := by
  have hu25 := Try.underlying25
  have HB := Aside0.mk (Below.refl w.heap.size w)
  have H : ((server_KissReply.f k a0_0 a0_1 a0_2 a0_3 a0_4 a0_5 a0_6 a0_7 a0_8 a0_9 a0_10 a0_11 a0_12 a1).bind fun bt289 => ((timesyncref30_KissReply.f k a0_0 a0_1 a0_2 a0_3 a0_4 a0_5 a0_6 a0_7 a0_8 a0_9 a0_10 a0_11 a0_12 a1).bind fun bt304 => (if (!(bt289.1 == bt304.1) || (!(bt289.2.1 == bt304.2.1) || (!(bt289.2.2.1 == bt304.2.2.1) || (!(bt289.2.2.2.1 == bt304.2.2.2.1) || (!(bt289.2.2.2.2.1 == bt304.2.2.2.2.1) || (!(bt289.2.2.2.2.2.1 == bt304.2.2.2.2.2.1) || (!(bt289.2.2.2.2.2.2.1 == bt304.2.2.2.2.2.2.1) || (!(bt289.2.2.2.2.2.2.2.1 == bt304.2.2.2.2.2.2.2.1) || (!(bt289.2.2.2.2.2.2.2.2.1 == bt304.2.2.2.2.2.2.2.2.1) || (!(bt289.2.2.2.2.2.2.2.2.2.1 == bt304.2.2.2.2.2.2.2.2.2.1) || (!(bt289.2.2.2.2.2.2.2.2.2.2.1 == bt304.2.2.2.2.2.2.2.2.2.2.1) || (!(bt289.2.2.2.2.2.2.2.2.2.2.2.1 == bt304.2.2.2.2.2.2.2.2.2.2.2.1) || (!(bt289.2.2.2.2.2.2.2.2.2.2.2.2.1 == bt304.2.2.2.2.2.2.2.2.2.2.2.2.1)))))))))))))) = true then (timesynclaw30_ServerKisses.j0 k a1 bt289.2.2.2.2.2.2.2.2.2.2.2.2.2 true bt289.1 bt289.2.1 bt289.2.2.1 bt289.2.2.2.1 bt289.2.2.2.2.1 bt289.2.2.2.2.2.1 bt289.2.2.2.2.2.2.1 bt289.2.2.2.2.2.2.2.1 bt289.2.2.2.2.2.2.2.2.1 bt289.2.2.2.2.2.2.2.2.2.1 bt289.2.2.2.2.2.2.2.2.2.2.1 bt289.2.2.2.2.2.2.2.2.2.2.2.1 bt289.2.2.2.2.2.2.2.2.2.2.2.2.1) else (timesynclaw30_ServerKisses.j0 k a1 bt289.2.2.2.2.2.2.2.2.2.2.2.2.2 (bt289.2.2.2.2.2.2.2.2.2.2.2.2.2 != bt304.2.2.2.2.2.2.2.2.2.2.2.2.2) bt289.1 bt289.2.1 bt289.2.2.1 bt289.2.2.2.1 bt289.2.2.2.2.1 bt289.2.2.2.2.2.1 bt289.2.2.2.2.2.2.1 bt289.2.2.2.2.2.2.2.1 bt289.2.2.2.2.2.2.2.2.1 bt289.2.2.2.2.2.2.2.2.2.1 bt289.2.2.2.2.2.2.2.2.2.2.1 bt289.2.2.2.2.2.2.2.2.2.2.2.1 bt289.2.2.2.2.2.2.2.2.2.2.2.2.1)))) = some r := h
  clear h
  replace H := Option.bind_eq_some_iff.mp H
  obtain ⟨⟨t289, t290, t291, t292, t293, t294, t295, t296, t297, t298, t299, t300, t301, t302⟩, A30, H⟩ := H
  replace H : ((timesyncref30_KissReply.f k a0_0 a0_1 a0_2 a0_3 a0_4 a0_5 a0_6 a0_7 a0_8 a0_9 a0_10 a0_11 a0_12 a1).bind fun bt304 => (if (!(t289 == bt304.1) || (!(t290 == bt304.2.1) || (!(t291 == bt304.2.2.1) || (!(t292 == bt304.2.2.2.1) || (!(t293 == bt304.2.2.2.2.1) || (!(t294 == bt304.2.2.2.2.2.1) || (!(t295 == bt304.2.2.2.2.2.2.1) || (!(t296 == bt304.2.2.2.2.2.2.2.1) || (!(t297 == bt304.2.2.2.2.2.2.2.2.1) || (!(t298 == bt304.2.2.2.2.2.2.2.2.2.1) || (!(t299 == bt304.2.2.2.2.2.2.2.2.2.2.1) || (!(t300 == bt304.2.2.2.2.2.2.2.2.2.2.2.1) || (!(t301 == bt304.2.2.2.2.2.2.2.2.2.2.2.2.1)))))))))))))) = true then (timesynclaw30_ServerKisses.j0 k a1 t302 true t289 t290 t291 t292 t293 t294 t295 t296 t297 t298 t299 t300 t301) else (timesynclaw30_ServerKisses.j0 k a1 t302 (t302 != bt304.2.2.2.2.2.2.2.2.2.2.2.2.2) t289 t290 t291 t292 t293 t294 t295 t296 t297 t298 t299 t300 t301))) = some r := H
  have A3 := Aside0.mk A30
  clear A30
  replace H := Option.bind_eq_some_iff.mp H
  obtain ⟨⟨t304, t305, t306, t307, t308, t309, t310, t311, t312, t313, t314, t315, t316, t317⟩, A40, H⟩ := H
  replace H : (if (!(t289 == t304) || (!(t290 == t305) || (!(t291 == t306) || (!(t292 == t307) || (!(t293 == t308) || (!(t294 == t309) || (!(t295 == t310) || (!(t296 == t311) || (!(t297 == t312) || (!(t298 == t313) || (!(t299 == t314) || (!(t300 == t315) || (!(t301 == t316)))))))))))))) = true then (timesynclaw30_ServerKisses.j0 k a1 t302 true t289 t290 t291 t292 t293 t294 t295 t296 t297 t298 t299 t300 t301) else (timesynclaw30_ServerKisses.j0 k a1 t302 (t302 != t317) t289 t290 t291 t292 t293 t294 t295 t296 t297 t298 t299 t300 t301)) = some r := H
  have A4 := Aside0.mk A40
  clear A40
  have HC5 := Aside0.mk H
  clear H
  go_enter Try.func5, Try.ntmps5
  go_upto_region 3 with (first | ((with_reducible refine gate_dst (N := 2) rfl ?_); refine box_event ?hg (N := 2) ?hd (cs := #[.int .i64 a0_0, .int .i64 a0_1, .int .i64 a0_2, .int .i64 a0_3, .int .i64 a0_4, .int .i64 a0_5, .int .u32 a0_6, .int .u32 a0_7, .int .u32 a0_8, .int .u64 a0_9, .int .u64 a0_10, .int .u64 a0_11, .int .u64 a0_12]) (t := 25) ?hr ?_; (case hd => rfl); (case hg => rfl); (case hr => first | (go_simp; done) | (go_simp; rfl)); intro gb288 hg w6 hbox hb; have n0_ := Aside0.mk (below_step (by repeat (first | (with_reducible first | exact HB.out | apply below_alloc | apply pw_below_drewN | apply below_drew1) | exact HB.out)) hb); have n1_ := Aside0.mk (hbox); have n2_ := Aside0.mk ((by rw [hg]; exact (below_size (by repeat (first | (with_reducible first | exact HB.out | apply below_alloc | apply pw_below_drewN | apply below_drew1) | exact HB.out))) : w.heap.size ≤ gb288)); have n3_ := Aside0.mk ((by rw [hg]; exact (below_size (by repeat (first | (with_reducible first | exact HB.out | apply below_alloc | apply pw_below_drewN | apply below_drew1) | exact HB.out))) : w.heap.size ≤ gb288)); clear HB; have HB := n0_; have BK288 := n1_; have GW288 := n2_; have GE288 := n3_; clear n0_ n1_ n2_ n3_; clear hb hbox hg; have hcz7_0 : w6.cell? ⟨gb288, 0, none⟩ = some (.int .i64 a0_0) := (blk_cell BK288.out 0).trans rfl; have hcz7_1 : w6.cell? ⟨gb288, 1, none⟩ = some (.int .i64 a0_1) := (blk_cell BK288.out 1).trans rfl; have hcz7_2 : w6.cell? ⟨gb288, 2, none⟩ = some (.int .i64 a0_2) := (blk_cell BK288.out 2).trans rfl; have hcz7_3 : w6.cell? ⟨gb288, 3, none⟩ = some (.int .i64 a0_3) := (blk_cell BK288.out 3).trans rfl; have hcz7_4 : w6.cell? ⟨gb288, 4, none⟩ = some (.int .i64 a0_4) := (blk_cell BK288.out 4).trans rfl; have hcz7_5 : w6.cell? ⟨gb288, 5, none⟩ = some (.int .i64 a0_5) := (blk_cell BK288.out 5).trans rfl; have hcz7_6 : w6.cell? ⟨gb288, 6, none⟩ = some (.int .u32 a0_6) := (blk_cell BK288.out 6).trans rfl; have hcz7_7 : w6.cell? ⟨gb288, 7, none⟩ = some (.int .u32 a0_7) := (blk_cell BK288.out 7).trans rfl; have hcz7_8 : w6.cell? ⟨gb288, 8, none⟩ = some (.int .u32 a0_8) := (blk_cell BK288.out 8).trans rfl; have hcz7_9 : w6.cell? ⟨gb288, 9, none⟩ = some (.int .u64 a0_9) := (blk_cell BK288.out 9).trans rfl; have hcz7_10 : w6.cell? ⟨gb288, 10, none⟩ = some (.int .u64 a0_10) := (blk_cell BK288.out 10).trans rfl; have hcz7_11 : w6.cell? ⟨gb288, 11, none⟩ = some (.int .u64 a0_11) := (blk_cell BK288.out 11).trans rfl; have hcz7_12 : w6.cell? ⟨gb288, 12, none⟩ = some (.int .u64 a0_12) := (blk_cell BK288.out 12).trans rfl; have hfz7_0 := blk_frozen BK288.out 0; have hfz7_1 := blk_frozen BK288.out 1; have hfz7_2 := blk_frozen BK288.out 2; have hfz7_3 := blk_frozen BK288.out 3; have hfz7_4 := blk_frozen BK288.out 4; have hfz7_5 := blk_frozen BK288.out 5; have hfz7_6 := blk_frozen BK288.out 6; have hfz7_7 := blk_frozen BK288.out 7; have hfz7_8 := blk_frozen BK288.out 8; have hfz7_9 := blk_frozen BK288.out 9; have hfz7_10 := blk_frozen BK288.out 10; have hfz7_11 := blk_frozen BK288.out 11; have hfz7_12 := blk_frozen BK288.out 12) | ((with_reducible refine gate_callee (f := 14) rfl ?_); refine goesL_ (some 14) rfl rfl Try.func14 (by kernel_rfl) rfl #[.agg #[.int .i64 a0_0, .int .i64 a0_1, .int .i64 a0_2, .int .i64 a0_3, .int .i64 a0_4, .int .i64 a0_5, .int .u32 a0_6, .int .u32 a0_7, .int .u32 a0_8, .int .u64 a0_9, .int .u64 a0_10, .int .u64 a0_11, .int .u64 a0_12], .string a1] rfl (by (try simp only [List.map_toArray, List.map_cons, List.map_nil]); first | done | rfl | (simp only [List.length_drop, List.length_take]; rfl)) ?_; (with_reducible refine (server_KissReply.calls k a0_0 a0_1 a0_2 a0_3 a0_4 a0_5 a0_6 a0_7 a0_8 a0_9 a0_10 a0_11 a0_12 a1 t289 t290 t291 t292 t293 t294 t295 t296 t297 t298 t299 t300 t301 t302 _ A3.out).mono ?_); rintro e w8 ⟨rfl, hb⟩; refine ⟨_, rfl, ?_⟩; have n0_ := Aside0.mk (blk_below (g := gb288) (o := .cells #[.int .i64 a0_0, .int .i64 a0_1, .int .i64 a0_2, .int .i64 a0_3, .int .i64 a0_4, .int .i64 a0_5, .int .u32 a0_6, .int .u32 a0_7, .int .u32 a0_8, .int .u64 a0_9, .int .u64 a0_10, .int .u64 a0_11, .int .u64 a0_12] 25 (0, 0)) (by (with_reducible repeat (first | refine blk_drewN ?_ _ | refine blk_drew ?_ | refine blk_alloc ?_ _)); exact BK288.out) hb); have n1_ := Aside0.mk (below_step (by repeat (first | (with_reducible first | exact HB.out | apply below_alloc | apply pw_below_drewN | apply below_drew1 | refine below_set ?_ GE288.out) | exact HB.out)) hb); clear BK288; clear HB; have BK288 := n0_; have HB := n1_; clear n0_ n1_; (try clear hb); (try clear hb2); (try clear hk); (try clear hi)) | ((with_reducible refine gate_dst (N := 5) rfl ?_); refine box_event ?hg (N := 5) ?hd (cs := #[.int .i64 0, .int .i64 0, .int .i64 0, .int .i64 0, .int .i64 0, .int .i64 0, .int .u32 0, .int .u32 0, .int .u32 0, .int .u64 0, .int .u64 0, .int .u64 0, .int .u64 0]) (t := 25) ?hr ?_; (case hd => rfl); (case hg => rfl); (case hr => first | (go_simp; done) | (go_simp; rfl)); intro gb303 hg w9 hbox hb; have n0_ := Aside0.mk (blk_below (g := gb288) (o := .cells #[.int .i64 a0_0, .int .i64 a0_1, .int .i64 a0_2, .int .i64 a0_3, .int .i64 a0_4, .int .i64 a0_5, .int .u32 a0_6, .int .u32 a0_7, .int .u32 a0_8, .int .u64 a0_9, .int .u64 a0_10, .int .u64 a0_11, .int .u64 a0_12] 25 (0, 0)) (by (with_reducible repeat (first | refine blk_drewN ?_ _ | refine blk_drew ?_ | refine blk_alloc ?_ _)); exact BK288.out) hb); have n1_ := Aside0.mk (below_step (by repeat (first | (with_reducible first | exact HB.out | apply below_alloc | apply pw_below_drewN | apply below_drew1 | refine below_set ?_ GE288.out) | exact HB.out)) hb); have n2_ := Aside0.mk (hbox); have n3_ := Aside0.mk ((by rw [hg]; exact (below_size (by repeat (first | (with_reducible first | exact HB.out | apply below_alloc | apply pw_below_drewN | apply below_drew1 | refine below_set ?_ GE288.out) | exact HB.out))) : w.heap.size ≤ gb303)); have n4_ := Aside0.mk ((by rw [hg]; exact (below_size (by repeat (first | (with_reducible first | exact HB.out | apply below_alloc | apply pw_below_drewN | apply below_drew1 | refine below_set ?_ GE288.out) | exact HB.out))) : w.heap.size ≤ gb303)); have n5_ := Aside0.mk ((by rw [hg]; exact Nat.ne_of_lt (blk_lt (g := gb288) (o := .cells #[.int .i64 a0_0, .int .i64 a0_1, .int .i64 a0_2, .int .i64 a0_3, .int .i64 a0_4, .int .i64 a0_5, .int .u32 a0_6, .int .u32 a0_7, .int .u32 a0_8, .int .u64 a0_9, .int .u64 a0_10, .int .u64 a0_11, .int .u64 a0_12] 25 (0, 0)) (by (with_reducible repeat (first | refine blk_drewN ?_ _ | refine blk_drew ?_ | refine blk_alloc ?_ _)); exact BK288.out)) : gb288 ≠ gb303)); have n6_ := Aside0.mk ((by rw [hg]; exact Nat.ne_of_gt (blk_lt (g := gb288) (o := .cells #[.int .i64 a0_0, .int .i64 a0_1, .int .i64 a0_2, .int .i64 a0_3, .int .i64 a0_4, .int .i64 a0_5, .int .u32 a0_6, .int .u32 a0_7, .int .u32 a0_8, .int .u64 a0_9, .int .u64 a0_10, .int .u64 a0_11, .int .u64 a0_12] 25 (0, 0)) (by (with_reducible repeat (first | refine blk_drewN ?_ _ | refine blk_drew ?_ | refine blk_alloc ?_ _)); exact BK288.out)) : gb303 ≠ gb288)); clear BK288; clear HB; have BK288 := n0_; have HB := n1_; have BK303 := n2_; have GW303 := n3_; have GE303 := n4_; have NB288_303 := n5_; have NB303_288 := n6_; clear n0_ n1_ n2_ n3_ n4_ n5_ n6_; clear hb hbox hg; have hnb10 := NB303_288.out; have hnc10 := NB288_303.out; have hcz11_0 : w9.cell? ⟨gb303, 0, none⟩ = some (.int .i64 0) := (blk_cell BK303.out 0).trans rfl; have hcz11_1 : w9.cell? ⟨gb303, 1, none⟩ = some (.int .i64 0) := (blk_cell BK303.out 1).trans rfl; have hcz11_2 : w9.cell? ⟨gb303, 2, none⟩ = some (.int .i64 0) := (blk_cell BK303.out 2).trans rfl; have hcz11_3 : w9.cell? ⟨gb303, 3, none⟩ = some (.int .i64 0) := (blk_cell BK303.out 3).trans rfl; have hcz11_4 : w9.cell? ⟨gb303, 4, none⟩ = some (.int .i64 0) := (blk_cell BK303.out 4).trans rfl; have hcz11_5 : w9.cell? ⟨gb303, 5, none⟩ = some (.int .i64 0) := (blk_cell BK303.out 5).trans rfl; have hcz11_6 : w9.cell? ⟨gb303, 6, none⟩ = some (.int .u32 0) := (blk_cell BK303.out 6).trans rfl; have hcz11_7 : w9.cell? ⟨gb303, 7, none⟩ = some (.int .u32 0) := (blk_cell BK303.out 7).trans rfl; have hcz11_8 : w9.cell? ⟨gb303, 8, none⟩ = some (.int .u32 0) := (blk_cell BK303.out 8).trans rfl; have hcz11_9 : w9.cell? ⟨gb303, 9, none⟩ = some (.int .u64 0) := (blk_cell BK303.out 9).trans rfl; have hcz11_10 : w9.cell? ⟨gb303, 10, none⟩ = some (.int .u64 0) := (blk_cell BK303.out 10).trans rfl; have hcz11_11 : w9.cell? ⟨gb303, 11, none⟩ = some (.int .u64 0) := (blk_cell BK303.out 11).trans rfl; have hcz11_12 : w9.cell? ⟨gb303, 12, none⟩ = some (.int .u64 0) := (blk_cell BK303.out 12).trans rfl; have hfz11_0 := blk_frozen BK303.out 0; have hfz11_1 := blk_frozen BK303.out 1; have hfz11_2 := blk_frozen BK303.out 2; have hfz11_3 := blk_frozen BK303.out 3; have hfz11_4 := blk_frozen BK303.out 4; have hfz11_5 := blk_frozen BK303.out 5; have hfz11_6 := blk_frozen BK303.out 6; have hfz11_7 := blk_frozen BK303.out 7; have hfz11_8 := blk_frozen BK303.out 8; have hfz11_9 := blk_frozen BK303.out 9; have hfz11_10 := blk_frozen BK303.out 10; have hfz11_11 := blk_frozen BK303.out 11; have hfz11_12 := blk_frozen BK303.out 12; have hcz12_0 : w9.cell? ⟨gb288, 0, none⟩ = some (.int .i64 a0_0) := (blk_cell BK288.out 0).trans rfl; have hcz12_1 : w9.cell? ⟨gb288, 1, none⟩ = some (.int .i64 a0_1) := (blk_cell BK288.out 1).trans rfl; have hcz12_2 : w9.cell? ⟨gb288, 2, none⟩ = some (.int .i64 a0_2) := (blk_cell BK288.out 2).trans rfl; have hcz12_3 : w9.cell? ⟨gb288, 3, none⟩ = some (.int .i64 a0_3) := (blk_cell BK288.out 3).trans rfl; have hcz12_4 : w9.cell? ⟨gb288, 4, none⟩ = some (.int .i64 a0_4) := (blk_cell BK288.out 4).trans rfl; have hcz12_5 : w9.cell? ⟨gb288, 5, none⟩ = some (.int .i64 a0_5) := (blk_cell BK288.out 5).trans rfl; have hcz12_6 : w9.cell? ⟨gb288, 6, none⟩ = some (.int .u32 a0_6) := (blk_cell BK288.out 6).trans rfl; have hcz12_7 : w9.cell? ⟨gb288, 7, none⟩ = some (.int .u32 a0_7) := (blk_cell BK288.out 7).trans rfl; have hcz12_8 : w9.cell? ⟨gb288, 8, none⟩ = some (.int .u32 a0_8) := (blk_cell BK288.out 8).trans rfl; have hcz12_9 : w9.cell? ⟨gb288, 9, none⟩ = some (.int .u64 a0_9) := (blk_cell BK288.out 9).trans rfl; have hcz12_10 : w9.cell? ⟨gb288, 10, none⟩ = some (.int .u64 a0_10) := (blk_cell BK288.out 10).trans rfl; have hcz12_11 : w9.cell? ⟨gb288, 11, none⟩ = some (.int .u64 a0_11) := (blk_cell BK288.out 11).trans rfl; have hcz12_12 : w9.cell? ⟨gb288, 12, none⟩ = some (.int .u64 a0_12) := (blk_cell BK288.out 12).trans rfl; have hfz12_0 := blk_frozen BK288.out 0; have hfz12_1 := blk_frozen BK288.out 1; have hfz12_2 := blk_frozen BK288.out 2; have hfz12_3 := blk_frozen BK288.out 3; have hfz12_4 := blk_frozen BK288.out 4; have hfz12_5 := blk_frozen BK288.out 5; have hfz12_6 := blk_frozen BK288.out 6; have hfz12_7 := blk_frozen BK288.out 7; have hfz12_8 := blk_frozen BK288.out 8; have hfz12_9 := blk_frozen BK288.out 9; have hfz12_10 := blk_frozen BK288.out 10; have hfz12_11 := blk_frozen BK288.out 11; have hfz12_12 := blk_frozen BK288.out 12) | ((with_reducible refine gate_callee (f := 15) rfl ?_); refine goesL_ (some 20) rfl rfl Try.func15 (by kernel_rfl) rfl #[.agg #[.int .i64 a0_0, .int .i64 a0_1, .int .i64 a0_2, .int .i64 a0_3, .int .i64 a0_4, .int .i64 a0_5, .int .u32 a0_6, .int .u32 a0_7, .int .u32 a0_8, .int .u64 a0_9, .int .u64 a0_10, .int .u64 a0_11, .int .u64 a0_12], .string a1] rfl (by (try simp only [List.map_toArray, List.map_cons, List.map_nil]); first | done | rfl | (simp only [List.length_drop, List.length_take]; rfl)) ?_; (with_reducible refine (timesyncref30_KissReply.calls k a0_0 a0_1 a0_2 a0_3 a0_4 a0_5 a0_6 a0_7 a0_8 a0_9 a0_10 a0_11 a0_12 a1 t304 t305 t306 t307 t308 t309 t310 t311 t312 t313 t314 t315 t316 t317 _ A4.out).mono ?_); rintro e w13 ⟨rfl, hb⟩; refine ⟨_, rfl, ?_⟩; have n0_ := Aside0.mk (blk_below (g := gb288) (o := .cells #[.int .i64 a0_0, .int .i64 a0_1, .int .i64 a0_2, .int .i64 a0_3, .int .i64 a0_4, .int .i64 a0_5, .int .u32 a0_6, .int .u32 a0_7, .int .u32 a0_8, .int .u64 a0_9, .int .u64 a0_10, .int .u64 a0_11, .int .u64 a0_12] 25 (0, 0)) (by (with_reducible repeat (first | refine blk_drewN ?_ _ | refine blk_drew ?_ | refine blk_alloc ?_ _)); refine blk_far ?_ NB288_303.out _; (with_reducible repeat (first | refine blk_drewN ?_ _ | refine blk_drew ?_ | refine blk_alloc ?_ _)); refine blk_far ?_ NB288_303.out _; (with_reducible repeat (first | refine blk_drewN ?_ _ | refine blk_drew ?_ | refine blk_alloc ?_ _)); refine blk_far ?_ NB288_303.out _; (with_reducible repeat (first | refine blk_drewN ?_ _ | refine blk_drew ?_ | refine blk_alloc ?_ _)); refine blk_far ?_ NB288_303.out _; (with_reducible repeat (first | refine blk_drewN ?_ _ | refine blk_drew ?_ | refine blk_alloc ?_ _)); refine blk_far ?_ NB288_303.out _; (with_reducible repeat (first | refine blk_drewN ?_ _ | refine blk_drew ?_ | refine blk_alloc ?_ _)); refine blk_far ?_ NB288_303.out _; (with_reducible repeat (first | refine blk_drewN ?_ _ | refine blk_drew ?_ | refine blk_alloc ?_ _)); refine blk_far ?_ NB288_303.out _; (with_reducible repeat (first | refine blk_drewN ?_ _ | refine blk_drew ?_ | refine blk_alloc ?_ _)); refine blk_far ?_ NB288_303.out _; (with_reducible repeat (first | refine blk_drewN ?_ _ | refine blk_drew ?_ | refine blk_alloc ?_ _)); refine blk_far ?_ NB288_303.out _; (with_reducible repeat (first | refine blk_drewN ?_ _ | refine blk_drew ?_ | refine blk_alloc ?_ _)); refine blk_far ?_ NB288_303.out _; (with_reducible repeat (first | refine blk_drewN ?_ _ | refine blk_drew ?_ | refine blk_alloc ?_ _)); refine blk_far ?_ NB288_303.out _; (with_reducible repeat (first | refine blk_drewN ?_ _ | refine blk_drew ?_ | refine blk_alloc ?_ _)); refine blk_far ?_ NB288_303.out _; (with_reducible repeat (first | refine blk_drewN ?_ _ | refine blk_drew ?_ | refine blk_alloc ?_ _)); refine blk_far ?_ NB288_303.out _; (with_reducible repeat (first | refine blk_drewN ?_ _ | refine blk_drew ?_ | refine blk_alloc ?_ _)); exact BK288.out) hb); have n1_ := Aside0.mk (blk_below (g := gb303) (o := .cells #[.int .i64 t289, .int .i64 t290, .int .i64 t291, .int .i64 t292, .int .i64 t293, .int .i64 t294, .int .u32 t295, .int .u32 t296, .int .u32 t297, .int .u64 t298, .int .u64 t299, .int .u64 t300, .int .u64 t301] 25 (0, 0)) (by (with_reducible repeat (first | refine blk_drewN ?_ _ | refine blk_drew ?_ | refine blk_alloc ?_ _)); refine blk_put (cs := #[.int .i64 t289, .int .i64 t290, .int .i64 t291, .int .i64 t292, .int .i64 t293, .int .i64 t294, .int .u32 t295, .int .u32 t296, .int .u32 t297, .int .u64 t298, .int .u64 t299, .int .u64 t300, .int .u64 0]) ?_ 12 _ rfl; (with_reducible repeat (first | refine blk_drewN ?_ _ | refine blk_drew ?_ | refine blk_alloc ?_ _)); refine blk_put (cs := #[.int .i64 t289, .int .i64 t290, .int .i64 t291, .int .i64 t292, .int .i64 t293, .int .i64 t294, .int .u32 t295, .int .u32 t296, .int .u32 t297, .int .u64 t298, .int .u64 t299, .int .u64 0, .int .u64 0]) ?_ 11 _ rfl; (with_reducible repeat (first | refine blk_drewN ?_ _ | refine blk_drew ?_ | refine blk_alloc ?_ _)); refine blk_put (cs := #[.int .i64 t289, .int .i64 t290, .int .i64 t291, .int .i64 t292, .int .i64 t293, .int .i64 t294, .int .u32 t295, .int .u32 t296, .int .u32 t297, .int .u64 t298, .int .u64 0, .int .u64 0, .int .u64 0]) ?_ 10 _ rfl; (with_reducible repeat (first | refine blk_drewN ?_ _ | refine blk_drew ?_ | refine blk_alloc ?_ _)); refine blk_put (cs := #[.int .i64 t289, .int .i64 t290, .int .i64 t291, .int .i64 t292, .int .i64 t293, .int .i64 t294, .int .u32 t295, .int .u32 t296, .int .u32 t297, .int .u64 0, .int .u64 0, .int .u64 0, .int .u64 0]) ?_ 9 _ rfl; (with_reducible repeat (first | refine blk_drewN ?_ _ | refine blk_drew ?_ | refine blk_alloc ?_ _)); refine blk_put (cs := #[.int .i64 t289, .int .i64 t290, .int .i64 t291, .int .i64 t292, .int .i64 t293, .int .i64 t294, .int .u32 t295, .int .u32 t296, .int .u32 0, .int .u64 0, .int .u64 0, .int .u64 0, .int .u64 0]) ?_ 8 _ rfl; (with_reducible repeat (first | refine blk_drewN ?_ _ | refine blk_drew ?_ | refine blk_alloc ?_ _)); refine blk_put (cs := #[.int .i64 t289, .int .i64 t290, .int .i64 t291, .int .i64 t292, .int .i64 t293, .int .i64 t294, .int .u32 t295, .int .u32 0, .int .u32 0, .int .u64 0, .int .u64 0, .int .u64 0, .int .u64 0]) ?_ 7 _ rfl; (with_reducible repeat (first | refine blk_drewN ?_ _ | refine blk_drew ?_ | refine blk_alloc ?_ _)); refine blk_put (cs := #[.int .i64 t289, .int .i64 t290, .int .i64 t291, .int .i64 t292, .int .i64 t293, .int .i64 t294, .int .u32 0, .int .u32 0, .int .u32 0, .int .u64 0, .int .u64 0, .int .u64 0, .int .u64 0]) ?_ 6 _ rfl; (with_reducible repeat (first | refine blk_drewN ?_ _ | refine blk_drew ?_ | refine blk_alloc ?_ _)); refine blk_put (cs := #[.int .i64 t289, .int .i64 t290, .int .i64 t291, .int .i64 t292, .int .i64 t293, .int .i64 0, .int .u32 0, .int .u32 0, .int .u32 0, .int .u64 0, .int .u64 0, .int .u64 0, .int .u64 0]) ?_ 5 _ rfl; (with_reducible repeat (first | refine blk_drewN ?_ _ | refine blk_drew ?_ | refine blk_alloc ?_ _)); refine blk_put (cs := #[.int .i64 t289, .int .i64 t290, .int .i64 t291, .int .i64 t292, .int .i64 0, .int .i64 0, .int .u32 0, .int .u32 0, .int .u32 0, .int .u64 0, .int .u64 0, .int .u64 0, .int .u64 0]) ?_ 4 _ rfl; (with_reducible repeat (first | refine blk_drewN ?_ _ | refine blk_drew ?_ | refine blk_alloc ?_ _)); refine blk_put (cs := #[.int .i64 t289, .int .i64 t290, .int .i64 t291, .int .i64 0, .int .i64 0, .int .i64 0, .int .u32 0, .int .u32 0, .int .u32 0, .int .u64 0, .int .u64 0, .int .u64 0, .int .u64 0]) ?_ 3 _ rfl; (with_reducible repeat (first | refine blk_drewN ?_ _ | refine blk_drew ?_ | refine blk_alloc ?_ _)); refine blk_put (cs := #[.int .i64 t289, .int .i64 t290, .int .i64 0, .int .i64 0, .int .i64 0, .int .i64 0, .int .u32 0, .int .u32 0, .int .u32 0, .int .u64 0, .int .u64 0, .int .u64 0, .int .u64 0]) ?_ 2 _ rfl; (with_reducible repeat (first | refine blk_drewN ?_ _ | refine blk_drew ?_ | refine blk_alloc ?_ _)); refine blk_put (cs := #[.int .i64 t289, .int .i64 0, .int .i64 0, .int .i64 0, .int .i64 0, .int .i64 0, .int .u32 0, .int .u32 0, .int .u32 0, .int .u64 0, .int .u64 0, .int .u64 0, .int .u64 0]) ?_ 1 _ rfl; (with_reducible repeat (first | refine blk_drewN ?_ _ | refine blk_drew ?_ | refine blk_alloc ?_ _)); refine blk_put (cs := #[.int .i64 0, .int .i64 0, .int .i64 0, .int .i64 0, .int .i64 0, .int .i64 0, .int .u32 0, .int .u32 0, .int .u32 0, .int .u64 0, .int .u64 0, .int .u64 0, .int .u64 0]) ?_ 0 _ rfl; (with_reducible repeat (first | refine blk_drewN ?_ _ | refine blk_drew ?_ | refine blk_alloc ?_ _)); exact BK303.out) hb); have n2_ := Aside0.mk (below_step (by repeat (first | (with_reducible first | exact HB.out | apply below_alloc | apply pw_below_drewN | apply below_drew1 | refine below_set ?_ GE288.out | refine below_set ?_ GE303.out) | exact HB.out)) hb); clear BK288; clear BK303; clear HB; have BK288 := n0_; have BK303 := n1_; have HB := n2_; clear n0_ n1_ n2_; (try clear hb); (try clear hb2); (try clear hk); (try clear hi)) | ((with_reducible refine gate_dst (N := 7) rfl ?_); refine box_event ?hg (N := 7) ?hd (cs := #[.int .i64 0, .int .i64 0, .int .i64 0, .int .i64 0, .int .i64 0, .int .i64 0, .int .u32 0, .int .u32 0, .int .u32 0, .int .u64 0, .int .u64 0, .int .u64 0, .int .u64 0]) (t := 25) ?hr ?_; (case hd => rfl); (case hg => rfl); (case hr => first | (go_simp; done) | (go_simp; rfl)); intro gb318 hg w14 hbox hb; have n0_ := Aside0.mk (blk_below (g := gb288) (o := .cells #[.int .i64 a0_0, .int .i64 a0_1, .int .i64 a0_2, .int .i64 a0_3, .int .i64 a0_4, .int .i64 a0_5, .int .u32 a0_6, .int .u32 a0_7, .int .u32 a0_8, .int .u64 a0_9, .int .u64 a0_10, .int .u64 a0_11, .int .u64 a0_12] 25 (0, 0)) (by (with_reducible repeat (first | refine blk_drewN ?_ _ | refine blk_drew ?_ | refine blk_alloc ?_ _)); exact BK288.out) hb); have n1_ := Aside0.mk (blk_below (g := gb303) (o := .cells #[.int .i64 t289, .int .i64 t290, .int .i64 t291, .int .i64 t292, .int .i64 t293, .int .i64 t294, .int .u32 t295, .int .u32 t296, .int .u32 t297, .int .u64 t298, .int .u64 t299, .int .u64 t300, .int .u64 t301] 25 (0, 0)) (by (with_reducible repeat (first | refine blk_drewN ?_ _ | refine blk_drew ?_ | refine blk_alloc ?_ _)); exact BK303.out) hb); have n2_ := Aside0.mk (below_step (by repeat (first | (with_reducible first | exact HB.out | apply below_alloc | apply pw_below_drewN | apply below_drew1 | refine below_set ?_ GE288.out | refine below_set ?_ GE303.out) | exact HB.out)) hb); have n3_ := Aside0.mk (hbox); have n4_ := Aside0.mk ((by rw [hg]; exact (below_size (by repeat (first | (with_reducible first | exact HB.out | apply below_alloc | apply pw_below_drewN | apply below_drew1 | refine below_set ?_ GE288.out | refine below_set ?_ GE303.out) | exact HB.out))) : w.heap.size ≤ gb318)); have n5_ := Aside0.mk ((by rw [hg]; exact (below_size (by repeat (first | (with_reducible first | exact HB.out | apply below_alloc | apply pw_below_drewN | apply below_drew1 | refine below_set ?_ GE288.out | refine below_set ?_ GE303.out) | exact HB.out))) : w.heap.size ≤ gb318)); have n6_ := Aside0.mk ((by rw [hg]; exact Nat.ne_of_lt (blk_lt (g := gb288) (o := .cells #[.int .i64 a0_0, .int .i64 a0_1, .int .i64 a0_2, .int .i64 a0_3, .int .i64 a0_4, .int .i64 a0_5, .int .u32 a0_6, .int .u32 a0_7, .int .u32 a0_8, .int .u64 a0_9, .int .u64 a0_10, .int .u64 a0_11, .int .u64 a0_12] 25 (0, 0)) (by (with_reducible repeat (first | refine blk_drewN ?_ _ | refine blk_drew ?_ | refine blk_alloc ?_ _)); exact BK288.out)) : gb288 ≠ gb318)); have n7_ := Aside0.mk ((by rw [hg]; exact Nat.ne_of_gt (blk_lt (g := gb288) (o := .cells #[.int .i64 a0_0, .int .i64 a0_1, .int .i64 a0_2, .int .i64 a0_3, .int .i64 a0_4, .int .i64 a0_5, .int .u32 a0_6, .int .u32 a0_7, .int .u32 a0_8, .int .u64 a0_9, .int .u64 a0_10, .int .u64 a0_11, .int .u64 a0_12] 25 (0, 0)) (by (with_reducible repeat (first | refine blk_drewN ?_ _ | refine blk_drew ?_ | refine blk_alloc ?_ _)); exact BK288.out)) : gb318 ≠ gb288)); have n8_ := Aside0.mk ((by rw [hg]; exact Nat.ne_of_lt (blk_lt (g := gb303) (o := .cells #[.int .i64 t289, .int .i64 t290, .int .i64 t291, .int .i64 t292, .int .i64 t293, .int .i64 t294, .int .u32 t295, .int .u32 t296, .int .u32 t297, .int .u64 t298, .int .u64 t299, .int .u64 t300, .int .u64 t301] 25 (0, 0)) (by (with_reducible repeat (first | refine blk_drewN ?_ _ | refine blk_drew ?_ | refine blk_alloc ?_ _)); exact BK303.out)) : gb303 ≠ gb318)); have n9_ := Aside0.mk ((by rw [hg]; exact Nat.ne_of_gt (blk_lt (g := gb303) (o := .cells #[.int .i64 t289, .int .i64 t290, .int .i64 t291, .int .i64 t292, .int .i64 t293, .int .i64 t294, .int .u32 t295, .int .u32 t296, .int .u32 t297, .int .u64 t298, .int .u64 t299, .int .u64 t300, .int .u64 t301] 25 (0, 0)) (by (with_reducible repeat (first | refine blk_drewN ?_ _ | refine blk_drew ?_ | refine blk_alloc ?_ _)); exact BK303.out)) : gb318 ≠ gb303)); clear BK288; clear BK303; clear HB; have BK288 := n0_; have BK303 := n1_; have HB := n2_; have BK318 := n3_; have GW318 := n4_; have GE318 := n5_; have NB288_318 := n6_; have NB318_288 := n7_; have NB303_318 := n8_; have NB318_303 := n9_; clear n0_ n1_ n2_ n3_ n4_ n5_ n6_ n7_ n8_ n9_; clear hb hbox hg; have hnb15 := NB318_288.out; have hnc15 := NB288_318.out; have hnb16 := NB318_303.out; have hnc16 := NB303_318.out; have hcz17_0 : w14.cell? ⟨gb318, 0, none⟩ = some (.int .i64 0) := (blk_cell BK318.out 0).trans rfl; have hcz17_1 : w14.cell? ⟨gb318, 1, none⟩ = some (.int .i64 0) := (blk_cell BK318.out 1).trans rfl; have hcz17_2 : w14.cell? ⟨gb318, 2, none⟩ = some (.int .i64 0) := (blk_cell BK318.out 2).trans rfl; have hcz17_3 : w14.cell? ⟨gb318, 3, none⟩ = some (.int .i64 0) := (blk_cell BK318.out 3).trans rfl; have hcz17_4 : w14.cell? ⟨gb318, 4, none⟩ = some (.int .i64 0) := (blk_cell BK318.out 4).trans rfl; have hcz17_5 : w14.cell? ⟨gb318, 5, none⟩ = some (.int .i64 0) := (blk_cell BK318.out 5).trans rfl; have hcz17_6 : w14.cell? ⟨gb318, 6, none⟩ = some (.int .u32 0) := (blk_cell BK318.out 6).trans rfl; have hcz17_7 : w14.cell? ⟨gb318, 7, none⟩ = some (.int .u32 0) := (blk_cell BK318.out 7).trans rfl; have hcz17_8 : w14.cell? ⟨gb318, 8, none⟩ = some (.int .u32 0) := (blk_cell BK318.out 8).trans rfl; have hcz17_9 : w14.cell? ⟨gb318, 9, none⟩ = some (.int .u64 0) := (blk_cell BK318.out 9).trans rfl; have hcz17_10 : w14.cell? ⟨gb318, 10, none⟩ = some (.int .u64 0) := (blk_cell BK318.out 10).trans rfl; have hcz17_11 : w14.cell? ⟨gb318, 11, none⟩ = some (.int .u64 0) := (blk_cell BK318.out 11).trans rfl; have hcz17_12 : w14.cell? ⟨gb318, 12, none⟩ = some (.int .u64 0) := (blk_cell BK318.out 12).trans rfl; have hfz17_0 := blk_frozen BK318.out 0; have hfz17_1 := blk_frozen BK318.out 1; have hfz17_2 := blk_frozen BK318.out 2; have hfz17_3 := blk_frozen BK318.out 3; have hfz17_4 := blk_frozen BK318.out 4; have hfz17_5 := blk_frozen BK318.out 5; have hfz17_6 := blk_frozen BK318.out 6; have hfz17_7 := blk_frozen BK318.out 7; have hfz17_8 := blk_frozen BK318.out 8; have hfz17_9 := blk_frozen BK318.out 9; have hfz17_10 := blk_frozen BK318.out 10; have hfz17_11 := blk_frozen BK318.out 11; have hfz17_12 := blk_frozen BK318.out 12))
  (try simp only [Act.put, List.setIfInBounds_toArray, List.set_cons_zero, List.set_cons_succ])
  go_cut [30] (fun v30 wc => ∃ (kq : Nat) (x30_4 : Bool), v30 = .bool x30_4 ∧ Aside0 (timesynclaw30_ServerKisses.j0 kq a1 t302 x30_4 t289 t290 t291 t292 t293 t294 t295 t296 t297 t298 t299 t300 t301 = some r) ∧ Aside0 (kq ≤ k) ∧ Aside0 (wc.heap[gb288]? = some (.cells #[.int .i64 a0_0, .int .i64 a0_1, .int .i64 a0_2, .int .i64 a0_3, .int .i64 a0_4, .int .i64 a0_5, .int .u32 a0_6, .int .u32 a0_7, .int .u32 a0_8, .int .u64 a0_9, .int .u64 a0_10, .int .u64 a0_11, .int .u64 a0_12] 25 (0, 0))) ∧ Aside0 (wc.heap[gb303]? = some (.cells #[.int .i64 t289, .int .i64 t290, .int .i64 t291, .int .i64 t292, .int .i64 t293, .int .i64 t294, .int .u32 t295, .int .u32 t296, .int .u32 t297, .int .u64 t298, .int .u64 t299, .int .u64 t300, .int .u64 t301] 25 (0, 0))) ∧ Aside0 (wc.heap[gb318]? = some (.cells #[.int .i64 t304, .int .i64 t305, .int .i64 t306, .int .i64 t307, .int .i64 t308, .int .i64 t309, .int .u32 t310, .int .u32 t311, .int .u32 t312, .int .u64 t313, .int .u64 t314, .int .u64 t315, .int .u64 t316] 25 (0, 0))) ∧ Aside0 (Below w.heap.size w wc))
  case first =>
    have H := HC5.out
    clear HC5
    by_cases c18 : (!(t289 == t304) || (!(t290 == t305) || (!(t291 == t306) || (!(t292 == t307) || (!(t293 == t308) || (!(t294 == t309) || (!(t295 == t310) || (!(t296 == t311) || (!(t297 == t312) || (!(t298 == t313) || (!(t299 == t314) || (!(t300 == t315) || (!(t301 == t316)))))))))))))) = true
    · rw [if_pos c18] at H
      have c18b0 : (!(t289 == t304) || (!(t290 == t305) || (!(t291 == t306) || (!(t292 == t307) || (!(t293 == t308) || (!(t294 == t309) || (!(t295 == t310) || (!(t296 == t311) || (!(t297 == t312) || (!(t298 == t313) || (!(t299 == t314) || (!(t300 == t315) || (!(t301 == t316)))))))))))))) = true := c18
      clear c18
      (first | rw [c18b0] | (simp only [i64_w, i32_w]; rw [c18b0]) | skip)
      have H' := Aside0.mk H
      clear H
      have hnb19 := NB303_288.out
      have hnc19 := NB288_303.out
      have hnb20 := NB303_318.out
      have hnc20 := NB318_303.out
      have hcz21_0 : w14.cell? ⟨gb303, 0, none⟩ = some (.int .i64 t289) := (blk_cell BK303.out 0).trans rfl
      have hcz21_1 : w14.cell? ⟨gb303, 1, none⟩ = some (.int .i64 t290) := (blk_cell BK303.out 1).trans rfl
      have hcz21_2 : w14.cell? ⟨gb303, 2, none⟩ = some (.int .i64 t291) := (blk_cell BK303.out 2).trans rfl
      have hcz21_3 : w14.cell? ⟨gb303, 3, none⟩ = some (.int .i64 t292) := (blk_cell BK303.out 3).trans rfl
      have hcz21_4 : w14.cell? ⟨gb303, 4, none⟩ = some (.int .i64 t293) := (blk_cell BK303.out 4).trans rfl
      have hcz21_5 : w14.cell? ⟨gb303, 5, none⟩ = some (.int .i64 t294) := (blk_cell BK303.out 5).trans rfl
      have hcz21_6 : w14.cell? ⟨gb303, 6, none⟩ = some (.int .u32 t295) := (blk_cell BK303.out 6).trans rfl
      have hcz21_7 : w14.cell? ⟨gb303, 7, none⟩ = some (.int .u32 t296) := (blk_cell BK303.out 7).trans rfl
      have hcz21_8 : w14.cell? ⟨gb303, 8, none⟩ = some (.int .u32 t297) := (blk_cell BK303.out 8).trans rfl
      have hcz21_9 : w14.cell? ⟨gb303, 9, none⟩ = some (.int .u64 t298) := (blk_cell BK303.out 9).trans rfl
      have hcz21_10 : w14.cell? ⟨gb303, 10, none⟩ = some (.int .u64 t299) := (blk_cell BK303.out 10).trans rfl
      have hcz21_11 : w14.cell? ⟨gb303, 11, none⟩ = some (.int .u64 t300) := (blk_cell BK303.out 11).trans rfl
      have hcz21_12 : w14.cell? ⟨gb303, 12, none⟩ = some (.int .u64 t301) := (blk_cell BK303.out 12).trans rfl
      have hfz21_0 := blk_frozen BK303.out 0
      have hfz21_1 := blk_frozen BK303.out 1
      have hfz21_2 := blk_frozen BK303.out 2
      have hfz21_3 := blk_frozen BK303.out 3
      have hfz21_4 := blk_frozen BK303.out 4
      have hfz21_5 := blk_frozen BK303.out 5
      have hfz21_6 := blk_frozen BK303.out 6
      have hfz21_7 := blk_frozen BK303.out 7
      have hfz21_8 := blk_frozen BK303.out 8
      have hfz21_9 := blk_frozen BK303.out 9
      have hfz21_10 := blk_frozen BK303.out 10
      have hfz21_11 := blk_frozen BK303.out 11
      have hfz21_12 := blk_frozen BK303.out 12
      have hnb22 := NB318_288.out
      have hnc22 := NB288_318.out
      have hcz23_0 : w14.cell? ⟨gb318, 0, none⟩ = some (.int .i64 0) := (blk_cell BK318.out 0).trans rfl
      have hcz23_1 : w14.cell? ⟨gb318, 1, none⟩ = some (.int .i64 0) := (blk_cell BK318.out 1).trans rfl
      have hcz23_2 : w14.cell? ⟨gb318, 2, none⟩ = some (.int .i64 0) := (blk_cell BK318.out 2).trans rfl
      have hcz23_3 : w14.cell? ⟨gb318, 3, none⟩ = some (.int .i64 0) := (blk_cell BK318.out 3).trans rfl
      have hcz23_4 : w14.cell? ⟨gb318, 4, none⟩ = some (.int .i64 0) := (blk_cell BK318.out 4).trans rfl
      have hcz23_5 : w14.cell? ⟨gb318, 5, none⟩ = some (.int .i64 0) := (blk_cell BK318.out 5).trans rfl
      have hcz23_6 : w14.cell? ⟨gb318, 6, none⟩ = some (.int .u32 0) := (blk_cell BK318.out 6).trans rfl
      have hcz23_7 : w14.cell? ⟨gb318, 7, none⟩ = some (.int .u32 0) := (blk_cell BK318.out 7).trans rfl
      have hcz23_8 : w14.cell? ⟨gb318, 8, none⟩ = some (.int .u32 0) := (blk_cell BK318.out 8).trans rfl
      have hcz23_9 : w14.cell? ⟨gb318, 9, none⟩ = some (.int .u64 0) := (blk_cell BK318.out 9).trans rfl
      have hcz23_10 : w14.cell? ⟨gb318, 10, none⟩ = some (.int .u64 0) := (blk_cell BK318.out 10).trans rfl
      have hcz23_11 : w14.cell? ⟨gb318, 11, none⟩ = some (.int .u64 0) := (blk_cell BK318.out 11).trans rfl
      have hcz23_12 : w14.cell? ⟨gb318, 12, none⟩ = some (.int .u64 0) := (blk_cell BK318.out 12).trans rfl
      have hfz23_0 := blk_frozen BK318.out 0
      have hfz23_1 := blk_frozen BK318.out 1
      have hfz23_2 := blk_frozen BK318.out 2
      have hfz23_3 := blk_frozen BK318.out 3
      have hfz23_4 := blk_frozen BK318.out 4
      have hfz23_5 := blk_frozen BK318.out 5
      have hfz23_6 := blk_frozen BK318.out 6
      have hfz23_7 := blk_frozen BK318.out 7
      have hfz23_8 := blk_frozen BK318.out 8
      have hfz23_9 := blk_frozen BK318.out 9
      have hfz23_10 := blk_frozen BK318.out 10
      have hfz23_11 := blk_frozen BK318.out 11
      have hfz23_12 := blk_frozen BK318.out 12
      go_wp2
      go_meet
      case rel => exact ⟨_, (true), (by first | rfl | (simp; done) | (simp [*]; done)), H', ⟨by first | omega | exact Nat.le_refl _⟩, ⟨by (with_reducible repeat (first | refine blk_drewN ?_ _ | refine blk_drew ?_ | refine blk_alloc ?_ _)); refine blk_far ?_ NB288_318.out _; (with_reducible repeat (first | refine blk_drewN ?_ _ | refine blk_drew ?_ | refine blk_alloc ?_ _)); refine blk_far ?_ NB288_318.out _; (with_reducible repeat (first | refine blk_drewN ?_ _ | refine blk_drew ?_ | refine blk_alloc ?_ _)); refine blk_far ?_ NB288_318.out _; (with_reducible repeat (first | refine blk_drewN ?_ _ | refine blk_drew ?_ | refine blk_alloc ?_ _)); refine blk_far ?_ NB288_318.out _; (with_reducible repeat (first | refine blk_drewN ?_ _ | refine blk_drew ?_ | refine blk_alloc ?_ _)); refine blk_far ?_ NB288_318.out _; (with_reducible repeat (first | refine blk_drewN ?_ _ | refine blk_drew ?_ | refine blk_alloc ?_ _)); refine blk_far ?_ NB288_318.out _; (with_reducible repeat (first | refine blk_drewN ?_ _ | refine blk_drew ?_ | refine blk_alloc ?_ _)); refine blk_far ?_ NB288_318.out _; (with_reducible repeat (first | refine blk_drewN ?_ _ | refine blk_drew ?_ | refine blk_alloc ?_ _)); refine blk_far ?_ NB288_318.out _; (with_reducible repeat (first | refine blk_drewN ?_ _ | refine blk_drew ?_ | refine blk_alloc ?_ _)); refine blk_far ?_ NB288_318.out _; (with_reducible repeat (first | refine blk_drewN ?_ _ | refine blk_drew ?_ | refine blk_alloc ?_ _)); refine blk_far ?_ NB288_318.out _; (with_reducible repeat (first | refine blk_drewN ?_ _ | refine blk_drew ?_ | refine blk_alloc ?_ _)); refine blk_far ?_ NB288_318.out _; (with_reducible repeat (first | refine blk_drewN ?_ _ | refine blk_drew ?_ | refine blk_alloc ?_ _)); refine blk_far ?_ NB288_318.out _; (with_reducible repeat (first | refine blk_drewN ?_ _ | refine blk_drew ?_ | refine blk_alloc ?_ _)); refine blk_far ?_ NB288_318.out _; (with_reducible repeat (first | refine blk_drewN ?_ _ | refine blk_drew ?_ | refine blk_alloc ?_ _)); exact BK288.out⟩, ⟨by (with_reducible repeat (first | refine blk_drewN ?_ _ | refine blk_drew ?_ | refine blk_alloc ?_ _)); refine blk_far ?_ NB303_318.out _; (with_reducible repeat (first | refine blk_drewN ?_ _ | refine blk_drew ?_ | refine blk_alloc ?_ _)); refine blk_far ?_ NB303_318.out _; (with_reducible repeat (first | refine blk_drewN ?_ _ | refine blk_drew ?_ | refine blk_alloc ?_ _)); refine blk_far ?_ NB303_318.out _; (with_reducible repeat (first | refine blk_drewN ?_ _ | refine blk_drew ?_ | refine blk_alloc ?_ _)); refine blk_far ?_ NB303_318.out _; (with_reducible repeat (first | refine blk_drewN ?_ _ | refine blk_drew ?_ | refine blk_alloc ?_ _)); refine blk_far ?_ NB303_318.out _; (with_reducible repeat (first | refine blk_drewN ?_ _ | refine blk_drew ?_ | refine blk_alloc ?_ _)); refine blk_far ?_ NB303_318.out _; (with_reducible repeat (first | refine blk_drewN ?_ _ | refine blk_drew ?_ | refine blk_alloc ?_ _)); refine blk_far ?_ NB303_318.out _; (with_reducible repeat (first | refine blk_drewN ?_ _ | refine blk_drew ?_ | refine blk_alloc ?_ _)); refine blk_far ?_ NB303_318.out _; (with_reducible repeat (first | refine blk_drewN ?_ _ | refine blk_drew ?_ | refine blk_alloc ?_ _)); refine blk_far ?_ NB303_318.out _; (with_reducible repeat (first | refine blk_drewN ?_ _ | refine blk_drew ?_ | refine blk_alloc ?_ _)); refine blk_far ?_ NB303_318.out _; (with_reducible repeat (first | refine blk_drewN ?_ _ | refine blk_drew ?_ | refine blk_alloc ?_ _)); refine blk_far ?_ NB303_318.out _; (with_reducible repeat (first | refine blk_drewN ?_ _ | refine blk_drew ?_ | refine blk_alloc ?_ _)); refine blk_far ?_ NB303_318.out _; (with_reducible repeat (first | refine blk_drewN ?_ _ | refine blk_drew ?_ | refine blk_alloc ?_ _)); refine blk_far ?_ NB303_318.out _; (with_reducible repeat (first | refine blk_drewN ?_ _ | refine blk_drew ?_ | refine blk_alloc ?_ _)); exact BK303.out⟩, ⟨by (with_reducible repeat (first | refine blk_drewN ?_ _ | refine blk_drew ?_ | refine blk_alloc ?_ _)); refine blk_put (cs := #[.int .i64 t304, .int .i64 t305, .int .i64 t306, .int .i64 t307, .int .i64 t308, .int .i64 t309, .int .u32 t310, .int .u32 t311, .int .u32 t312, .int .u64 t313, .int .u64 t314, .int .u64 t315, .int .u64 0]) ?_ 12 _ rfl; (with_reducible repeat (first | refine blk_drewN ?_ _ | refine blk_drew ?_ | refine blk_alloc ?_ _)); refine blk_put (cs := #[.int .i64 t304, .int .i64 t305, .int .i64 t306, .int .i64 t307, .int .i64 t308, .int .i64 t309, .int .u32 t310, .int .u32 t311, .int .u32 t312, .int .u64 t313, .int .u64 t314, .int .u64 0, .int .u64 0]) ?_ 11 _ rfl; (with_reducible repeat (first | refine blk_drewN ?_ _ | refine blk_drew ?_ | refine blk_alloc ?_ _)); refine blk_put (cs := #[.int .i64 t304, .int .i64 t305, .int .i64 t306, .int .i64 t307, .int .i64 t308, .int .i64 t309, .int .u32 t310, .int .u32 t311, .int .u32 t312, .int .u64 t313, .int .u64 0, .int .u64 0, .int .u64 0]) ?_ 10 _ rfl; (with_reducible repeat (first | refine blk_drewN ?_ _ | refine blk_drew ?_ | refine blk_alloc ?_ _)); refine blk_put (cs := #[.int .i64 t304, .int .i64 t305, .int .i64 t306, .int .i64 t307, .int .i64 t308, .int .i64 t309, .int .u32 t310, .int .u32 t311, .int .u32 t312, .int .u64 0, .int .u64 0, .int .u64 0, .int .u64 0]) ?_ 9 _ rfl; (with_reducible repeat (first | refine blk_drewN ?_ _ | refine blk_drew ?_ | refine blk_alloc ?_ _)); refine blk_put (cs := #[.int .i64 t304, .int .i64 t305, .int .i64 t306, .int .i64 t307, .int .i64 t308, .int .i64 t309, .int .u32 t310, .int .u32 t311, .int .u32 0, .int .u64 0, .int .u64 0, .int .u64 0, .int .u64 0]) ?_ 8 _ rfl; (with_reducible repeat (first | refine blk_drewN ?_ _ | refine blk_drew ?_ | refine blk_alloc ?_ _)); refine blk_put (cs := #[.int .i64 t304, .int .i64 t305, .int .i64 t306, .int .i64 t307, .int .i64 t308, .int .i64 t309, .int .u32 t310, .int .u32 0, .int .u32 0, .int .u64 0, .int .u64 0, .int .u64 0, .int .u64 0]) ?_ 7 _ rfl; (with_reducible repeat (first | refine blk_drewN ?_ _ | refine blk_drew ?_ | refine blk_alloc ?_ _)); refine blk_put (cs := #[.int .i64 t304, .int .i64 t305, .int .i64 t306, .int .i64 t307, .int .i64 t308, .int .i64 t309, .int .u32 0, .int .u32 0, .int .u32 0, .int .u64 0, .int .u64 0, .int .u64 0, .int .u64 0]) ?_ 6 _ rfl; (with_reducible repeat (first | refine blk_drewN ?_ _ | refine blk_drew ?_ | refine blk_alloc ?_ _)); refine blk_put (cs := #[.int .i64 t304, .int .i64 t305, .int .i64 t306, .int .i64 t307, .int .i64 t308, .int .i64 0, .int .u32 0, .int .u32 0, .int .u32 0, .int .u64 0, .int .u64 0, .int .u64 0, .int .u64 0]) ?_ 5 _ rfl; (with_reducible repeat (first | refine blk_drewN ?_ _ | refine blk_drew ?_ | refine blk_alloc ?_ _)); refine blk_put (cs := #[.int .i64 t304, .int .i64 t305, .int .i64 t306, .int .i64 t307, .int .i64 0, .int .i64 0, .int .u32 0, .int .u32 0, .int .u32 0, .int .u64 0, .int .u64 0, .int .u64 0, .int .u64 0]) ?_ 4 _ rfl; (with_reducible repeat (first | refine blk_drewN ?_ _ | refine blk_drew ?_ | refine blk_alloc ?_ _)); refine blk_put (cs := #[.int .i64 t304, .int .i64 t305, .int .i64 t306, .int .i64 0, .int .i64 0, .int .i64 0, .int .u32 0, .int .u32 0, .int .u32 0, .int .u64 0, .int .u64 0, .int .u64 0, .int .u64 0]) ?_ 3 _ rfl; (with_reducible repeat (first | refine blk_drewN ?_ _ | refine blk_drew ?_ | refine blk_alloc ?_ _)); refine blk_put (cs := #[.int .i64 t304, .int .i64 t305, .int .i64 0, .int .i64 0, .int .i64 0, .int .i64 0, .int .u32 0, .int .u32 0, .int .u32 0, .int .u64 0, .int .u64 0, .int .u64 0, .int .u64 0]) ?_ 2 _ rfl; (with_reducible repeat (first | refine blk_drewN ?_ _ | refine blk_drew ?_ | refine blk_alloc ?_ _)); refine blk_put (cs := #[.int .i64 t304, .int .i64 0, .int .i64 0, .int .i64 0, .int .i64 0, .int .i64 0, .int .u32 0, .int .u32 0, .int .u32 0, .int .u64 0, .int .u64 0, .int .u64 0, .int .u64 0]) ?_ 1 _ rfl; (with_reducible repeat (first | refine blk_drewN ?_ _ | refine blk_drew ?_ | refine blk_alloc ?_ _)); refine blk_put (cs := #[.int .i64 0, .int .i64 0, .int .i64 0, .int .i64 0, .int .i64 0, .int .i64 0, .int .u32 0, .int .u32 0, .int .u32 0, .int .u64 0, .int .u64 0, .int .u64 0, .int .u64 0]) ?_ 0 _ rfl; (with_reducible repeat (first | refine blk_drewN ?_ _ | refine blk_drew ?_ | refine blk_alloc ?_ _)); exact BK318.out⟩, ⟨by repeat (first | (with_reducible first | exact HB.out | apply below_alloc | apply pw_below_drewN | apply below_drew1 | refine below_set ?_ GE288.out | refine below_set ?_ GE303.out | refine below_set ?_ GE318.out) | exact HB.out)⟩⟩
    · rw [if_neg c18] at H
      have c18b0 : (!(t289 == t304) || (!(t290 == t305) || (!(t291 == t306) || (!(t292 == t307) || (!(t293 == t308) || (!(t294 == t309) || (!(t295 == t310) || (!(t296 == t311) || (!(t297 == t312) || (!(t298 == t313) || (!(t299 == t314) || (!(t300 == t315) || (!(t301 == t316)))))))))))))) = false := by simpa using c18
      clear c18
      (first | rw [c18b0] | (simp only [i64_w, i32_w]; rw [c18b0]) | skip)
      have H' := Aside0.mk H
      clear H
      have hnb24 := NB303_288.out
      have hnc24 := NB288_303.out
      have hnb25 := NB303_318.out
      have hnc25 := NB318_303.out
      have hcz26_0 : w14.cell? ⟨gb303, 0, none⟩ = some (.int .i64 t289) := (blk_cell BK303.out 0).trans rfl
      have hcz26_1 : w14.cell? ⟨gb303, 1, none⟩ = some (.int .i64 t290) := (blk_cell BK303.out 1).trans rfl
      have hcz26_2 : w14.cell? ⟨gb303, 2, none⟩ = some (.int .i64 t291) := (blk_cell BK303.out 2).trans rfl
      have hcz26_3 : w14.cell? ⟨gb303, 3, none⟩ = some (.int .i64 t292) := (blk_cell BK303.out 3).trans rfl
      have hcz26_4 : w14.cell? ⟨gb303, 4, none⟩ = some (.int .i64 t293) := (blk_cell BK303.out 4).trans rfl
      have hcz26_5 : w14.cell? ⟨gb303, 5, none⟩ = some (.int .i64 t294) := (blk_cell BK303.out 5).trans rfl
      have hcz26_6 : w14.cell? ⟨gb303, 6, none⟩ = some (.int .u32 t295) := (blk_cell BK303.out 6).trans rfl
      have hcz26_7 : w14.cell? ⟨gb303, 7, none⟩ = some (.int .u32 t296) := (blk_cell BK303.out 7).trans rfl
      have hcz26_8 : w14.cell? ⟨gb303, 8, none⟩ = some (.int .u32 t297) := (blk_cell BK303.out 8).trans rfl
      have hcz26_9 : w14.cell? ⟨gb303, 9, none⟩ = some (.int .u64 t298) := (blk_cell BK303.out 9).trans rfl
      have hcz26_10 : w14.cell? ⟨gb303, 10, none⟩ = some (.int .u64 t299) := (blk_cell BK303.out 10).trans rfl
      have hcz26_11 : w14.cell? ⟨gb303, 11, none⟩ = some (.int .u64 t300) := (blk_cell BK303.out 11).trans rfl
      have hcz26_12 : w14.cell? ⟨gb303, 12, none⟩ = some (.int .u64 t301) := (blk_cell BK303.out 12).trans rfl
      have hfz26_0 := blk_frozen BK303.out 0
      have hfz26_1 := blk_frozen BK303.out 1
      have hfz26_2 := blk_frozen BK303.out 2
      have hfz26_3 := blk_frozen BK303.out 3
      have hfz26_4 := blk_frozen BK303.out 4
      have hfz26_5 := blk_frozen BK303.out 5
      have hfz26_6 := blk_frozen BK303.out 6
      have hfz26_7 := blk_frozen BK303.out 7
      have hfz26_8 := blk_frozen BK303.out 8
      have hfz26_9 := blk_frozen BK303.out 9
      have hfz26_10 := blk_frozen BK303.out 10
      have hfz26_11 := blk_frozen BK303.out 11
      have hfz26_12 := blk_frozen BK303.out 12
      have hnb27 := NB318_288.out
      have hnc27 := NB288_318.out
      have hcz28_0 : w14.cell? ⟨gb318, 0, none⟩ = some (.int .i64 0) := (blk_cell BK318.out 0).trans rfl
      have hcz28_1 : w14.cell? ⟨gb318, 1, none⟩ = some (.int .i64 0) := (blk_cell BK318.out 1).trans rfl
      have hcz28_2 : w14.cell? ⟨gb318, 2, none⟩ = some (.int .i64 0) := (blk_cell BK318.out 2).trans rfl
      have hcz28_3 : w14.cell? ⟨gb318, 3, none⟩ = some (.int .i64 0) := (blk_cell BK318.out 3).trans rfl
      have hcz28_4 : w14.cell? ⟨gb318, 4, none⟩ = some (.int .i64 0) := (blk_cell BK318.out 4).trans rfl
      have hcz28_5 : w14.cell? ⟨gb318, 5, none⟩ = some (.int .i64 0) := (blk_cell BK318.out 5).trans rfl
      have hcz28_6 : w14.cell? ⟨gb318, 6, none⟩ = some (.int .u32 0) := (blk_cell BK318.out 6).trans rfl
      have hcz28_7 : w14.cell? ⟨gb318, 7, none⟩ = some (.int .u32 0) := (blk_cell BK318.out 7).trans rfl
      have hcz28_8 : w14.cell? ⟨gb318, 8, none⟩ = some (.int .u32 0) := (blk_cell BK318.out 8).trans rfl
      have hcz28_9 : w14.cell? ⟨gb318, 9, none⟩ = some (.int .u64 0) := (blk_cell BK318.out 9).trans rfl
      have hcz28_10 : w14.cell? ⟨gb318, 10, none⟩ = some (.int .u64 0) := (blk_cell BK318.out 10).trans rfl
      have hcz28_11 : w14.cell? ⟨gb318, 11, none⟩ = some (.int .u64 0) := (blk_cell BK318.out 11).trans rfl
      have hcz28_12 : w14.cell? ⟨gb318, 12, none⟩ = some (.int .u64 0) := (blk_cell BK318.out 12).trans rfl
      have hfz28_0 := blk_frozen BK318.out 0
      have hfz28_1 := blk_frozen BK318.out 1
      have hfz28_2 := blk_frozen BK318.out 2
      have hfz28_3 := blk_frozen BK318.out 3
      have hfz28_4 := blk_frozen BK318.out 4
      have hfz28_5 := blk_frozen BK318.out 5
      have hfz28_6 := blk_frozen BK318.out 6
      have hfz28_7 := blk_frozen BK318.out 7
      have hfz28_8 := blk_frozen BK318.out 8
      have hfz28_9 := blk_frozen BK318.out 9
      have hfz28_10 := blk_frozen BK318.out 10
      have hfz28_11 := blk_frozen BK318.out 11
      have hfz28_12 := blk_frozen BK318.out 12
      go_wp2
      go_meet
      case rel => exact ⟨_, ((t302 != t317)), (by first | rfl | (simp; done) | (simp [*]; done)), H', ⟨by first | omega | exact Nat.le_refl _⟩, ⟨by (with_reducible repeat (first | refine blk_drewN ?_ _ | refine blk_drew ?_ | refine blk_alloc ?_ _)); refine blk_far ?_ NB288_318.out _; (with_reducible repeat (first | refine blk_drewN ?_ _ | refine blk_drew ?_ | refine blk_alloc ?_ _)); refine blk_far ?_ NB288_318.out _; (with_reducible repeat (first | refine blk_drewN ?_ _ | refine blk_drew ?_ | refine blk_alloc ?_ _)); refine blk_far ?_ NB288_318.out _; (with_reducible repeat (first | refine blk_drewN ?_ _ | refine blk_drew ?_ | refine blk_alloc ?_ _)); refine blk_far ?_ NB288_318.out _; (with_reducible repeat (first | refine blk_drewN ?_ _ | refine blk_drew ?_ | refine blk_alloc ?_ _)); refine blk_far ?_ NB288_318.out _; (with_reducible repeat (first | refine blk_drewN ?_ _ | refine blk_drew ?_ | refine blk_alloc ?_ _)); refine blk_far ?_ NB288_318.out _; (with_reducible repeat (first | refine blk_drewN ?_ _ | refine blk_drew ?_ | refine blk_alloc ?_ _)); refine blk_far ?_ NB288_318.out _; (with_reducible repeat (first | refine blk_drewN ?_ _ | refine blk_drew ?_ | refine blk_alloc ?_ _)); refine blk_far ?_ NB288_318.out _; (with_reducible repeat (first | refine blk_drewN ?_ _ | refine blk_drew ?_ | refine blk_alloc ?_ _)); refine blk_far ?_ NB288_318.out _; (with_reducible repeat (first | refine blk_drewN ?_ _ | refine blk_drew ?_ | refine blk_alloc ?_ _)); refine blk_far ?_ NB288_318.out _; (with_reducible repeat (first | refine blk_drewN ?_ _ | refine blk_drew ?_ | refine blk_alloc ?_ _)); refine blk_far ?_ NB288_318.out _; (with_reducible repeat (first | refine blk_drewN ?_ _ | refine blk_drew ?_ | refine blk_alloc ?_ _)); refine blk_far ?_ NB288_318.out _; (with_reducible repeat (first | refine blk_drewN ?_ _ | refine blk_drew ?_ | refine blk_alloc ?_ _)); refine blk_far ?_ NB288_318.out _; (with_reducible repeat (first | refine blk_drewN ?_ _ | refine blk_drew ?_ | refine blk_alloc ?_ _)); exact BK288.out⟩, ⟨by (with_reducible repeat (first | refine blk_drewN ?_ _ | refine blk_drew ?_ | refine blk_alloc ?_ _)); refine blk_far ?_ NB303_318.out _; (with_reducible repeat (first | refine blk_drewN ?_ _ | refine blk_drew ?_ | refine blk_alloc ?_ _)); refine blk_far ?_ NB303_318.out _; (with_reducible repeat (first | refine blk_drewN ?_ _ | refine blk_drew ?_ | refine blk_alloc ?_ _)); refine blk_far ?_ NB303_318.out _; (with_reducible repeat (first | refine blk_drewN ?_ _ | refine blk_drew ?_ | refine blk_alloc ?_ _)); refine blk_far ?_ NB303_318.out _; (with_reducible repeat (first | refine blk_drewN ?_ _ | refine blk_drew ?_ | refine blk_alloc ?_ _)); refine blk_far ?_ NB303_318.out _; (with_reducible repeat (first | refine blk_drewN ?_ _ | refine blk_drew ?_ | refine blk_alloc ?_ _)); refine blk_far ?_ NB303_318.out _; (with_reducible repeat (first | refine blk_drewN ?_ _ | refine blk_drew ?_ | refine blk_alloc ?_ _)); refine blk_far ?_ NB303_318.out _; (with_reducible repeat (first | refine blk_drewN ?_ _ | refine blk_drew ?_ | refine blk_alloc ?_ _)); refine blk_far ?_ NB303_318.out _; (with_reducible repeat (first | refine blk_drewN ?_ _ | refine blk_drew ?_ | refine blk_alloc ?_ _)); refine blk_far ?_ NB303_318.out _; (with_reducible repeat (first | refine blk_drewN ?_ _ | refine blk_drew ?_ | refine blk_alloc ?_ _)); refine blk_far ?_ NB303_318.out _; (with_reducible repeat (first | refine blk_drewN ?_ _ | refine blk_drew ?_ | refine blk_alloc ?_ _)); refine blk_far ?_ NB303_318.out _; (with_reducible repeat (first | refine blk_drewN ?_ _ | refine blk_drew ?_ | refine blk_alloc ?_ _)); refine blk_far ?_ NB303_318.out _; (with_reducible repeat (first | refine blk_drewN ?_ _ | refine blk_drew ?_ | refine blk_alloc ?_ _)); refine blk_far ?_ NB303_318.out _; (with_reducible repeat (first | refine blk_drewN ?_ _ | refine blk_drew ?_ | refine blk_alloc ?_ _)); exact BK303.out⟩, ⟨by (with_reducible repeat (first | refine blk_drewN ?_ _ | refine blk_drew ?_ | refine blk_alloc ?_ _)); refine blk_put (cs := #[.int .i64 t304, .int .i64 t305, .int .i64 t306, .int .i64 t307, .int .i64 t308, .int .i64 t309, .int .u32 t310, .int .u32 t311, .int .u32 t312, .int .u64 t313, .int .u64 t314, .int .u64 t315, .int .u64 0]) ?_ 12 _ rfl; (with_reducible repeat (first | refine blk_drewN ?_ _ | refine blk_drew ?_ | refine blk_alloc ?_ _)); refine blk_put (cs := #[.int .i64 t304, .int .i64 t305, .int .i64 t306, .int .i64 t307, .int .i64 t308, .int .i64 t309, .int .u32 t310, .int .u32 t311, .int .u32 t312, .int .u64 t313, .int .u64 t314, .int .u64 0, .int .u64 0]) ?_ 11 _ rfl; (with_reducible repeat (first | refine blk_drewN ?_ _ | refine blk_drew ?_ | refine blk_alloc ?_ _)); refine blk_put (cs := #[.int .i64 t304, .int .i64 t305, .int .i64 t306, .int .i64 t307, .int .i64 t308, .int .i64 t309, .int .u32 t310, .int .u32 t311, .int .u32 t312, .int .u64 t313, .int .u64 0, .int .u64 0, .int .u64 0]) ?_ 10 _ rfl; (with_reducible repeat (first | refine blk_drewN ?_ _ | refine blk_drew ?_ | refine blk_alloc ?_ _)); refine blk_put (cs := #[.int .i64 t304, .int .i64 t305, .int .i64 t306, .int .i64 t307, .int .i64 t308, .int .i64 t309, .int .u32 t310, .int .u32 t311, .int .u32 t312, .int .u64 0, .int .u64 0, .int .u64 0, .int .u64 0]) ?_ 9 _ rfl; (with_reducible repeat (first | refine blk_drewN ?_ _ | refine blk_drew ?_ | refine blk_alloc ?_ _)); refine blk_put (cs := #[.int .i64 t304, .int .i64 t305, .int .i64 t306, .int .i64 t307, .int .i64 t308, .int .i64 t309, .int .u32 t310, .int .u32 t311, .int .u32 0, .int .u64 0, .int .u64 0, .int .u64 0, .int .u64 0]) ?_ 8 _ rfl; (with_reducible repeat (first | refine blk_drewN ?_ _ | refine blk_drew ?_ | refine blk_alloc ?_ _)); refine blk_put (cs := #[.int .i64 t304, .int .i64 t305, .int .i64 t306, .int .i64 t307, .int .i64 t308, .int .i64 t309, .int .u32 t310, .int .u32 0, .int .u32 0, .int .u64 0, .int .u64 0, .int .u64 0, .int .u64 0]) ?_ 7 _ rfl; (with_reducible repeat (first | refine blk_drewN ?_ _ | refine blk_drew ?_ | refine blk_alloc ?_ _)); refine blk_put (cs := #[.int .i64 t304, .int .i64 t305, .int .i64 t306, .int .i64 t307, .int .i64 t308, .int .i64 t309, .int .u32 0, .int .u32 0, .int .u32 0, .int .u64 0, .int .u64 0, .int .u64 0, .int .u64 0]) ?_ 6 _ rfl; (with_reducible repeat (first | refine blk_drewN ?_ _ | refine blk_drew ?_ | refine blk_alloc ?_ _)); refine blk_put (cs := #[.int .i64 t304, .int .i64 t305, .int .i64 t306, .int .i64 t307, .int .i64 t308, .int .i64 0, .int .u32 0, .int .u32 0, .int .u32 0, .int .u64 0, .int .u64 0, .int .u64 0, .int .u64 0]) ?_ 5 _ rfl; (with_reducible repeat (first | refine blk_drewN ?_ _ | refine blk_drew ?_ | refine blk_alloc ?_ _)); refine blk_put (cs := #[.int .i64 t304, .int .i64 t305, .int .i64 t306, .int .i64 t307, .int .i64 0, .int .i64 0, .int .u32 0, .int .u32 0, .int .u32 0, .int .u64 0, .int .u64 0, .int .u64 0, .int .u64 0]) ?_ 4 _ rfl; (with_reducible repeat (first | refine blk_drewN ?_ _ | refine blk_drew ?_ | refine blk_alloc ?_ _)); refine blk_put (cs := #[.int .i64 t304, .int .i64 t305, .int .i64 t306, .int .i64 0, .int .i64 0, .int .i64 0, .int .u32 0, .int .u32 0, .int .u32 0, .int .u64 0, .int .u64 0, .int .u64 0, .int .u64 0]) ?_ 3 _ rfl; (with_reducible repeat (first | refine blk_drewN ?_ _ | refine blk_drew ?_ | refine blk_alloc ?_ _)); refine blk_put (cs := #[.int .i64 t304, .int .i64 t305, .int .i64 0, .int .i64 0, .int .i64 0, .int .i64 0, .int .u32 0, .int .u32 0, .int .u32 0, .int .u64 0, .int .u64 0, .int .u64 0, .int .u64 0]) ?_ 2 _ rfl; (with_reducible repeat (first | refine blk_drewN ?_ _ | refine blk_drew ?_ | refine blk_alloc ?_ _)); refine blk_put (cs := #[.int .i64 t304, .int .i64 0, .int .i64 0, .int .i64 0, .int .i64 0, .int .i64 0, .int .u32 0, .int .u32 0, .int .u32 0, .int .u64 0, .int .u64 0, .int .u64 0, .int .u64 0]) ?_ 1 _ rfl; (with_reducible repeat (first | refine blk_drewN ?_ _ | refine blk_drew ?_ | refine blk_alloc ?_ _)); refine blk_put (cs := #[.int .i64 0, .int .i64 0, .int .i64 0, .int .i64 0, .int .i64 0, .int .i64 0, .int .u32 0, .int .u32 0, .int .u32 0, .int .u64 0, .int .u64 0, .int .u64 0, .int .u64 0]) ?_ 0 _ rfl; (with_reducible repeat (first | refine blk_drewN ?_ _ | refine blk_drew ?_ | refine blk_alloc ?_ _)); exact BK318.out⟩, ⟨by repeat (first | (with_reducible first | exact HB.out | apply below_alloc | apply pw_below_drewN | apply below_drew1 | refine below_set ?_ GE288.out | refine below_set ?_ GE303.out | refine below_set ?_ GE318.out) | exact HB.out)⟩⟩
  case rest =>
    clear HC5
    try clear c1
    try clear c2
    try clear p2
    try clear c5
    try clear c10
    try clear c14
    try clear c15
    try clear c16
    try clear c18
    try clear c18b0
    try clear c19
    try clear c20
    try clear c22
    try clear c24
    try clear c25
    try clear c27
    try clear hcz11_0
    try clear hcz11_1
    try clear hcz11_10
    try clear hcz11_11
    try clear hcz11_12
    try clear hcz11_2
    try clear hcz11_3
    try clear hcz11_4
    try clear hcz11_5
    try clear hcz11_6
    try clear hcz11_7
    try clear hcz11_8
    try clear hcz11_9
    try clear hcz12_0
    try clear hcz12_1
    try clear hcz12_10
    try clear hcz12_11
    try clear hcz12_12
    try clear hcz12_2
    try clear hcz12_3
    try clear hcz12_4
    try clear hcz12_5
    try clear hcz12_6
    try clear hcz12_7
    try clear hcz12_8
    try clear hcz12_9
    try clear hcz17_0
    try clear hcz17_1
    try clear hcz17_10
    try clear hcz17_11
    try clear hcz17_12
    try clear hcz17_2
    try clear hcz17_3
    try clear hcz17_4
    try clear hcz17_5
    try clear hcz17_6
    try clear hcz17_7
    try clear hcz17_8
    try clear hcz17_9
    try clear hcz21_0
    try clear hcz21_1
    try clear hcz21_10
    try clear hcz21_11
    try clear hcz21_12
    try clear hcz21_2
    try clear hcz21_3
    try clear hcz21_4
    try clear hcz21_5
    try clear hcz21_6
    try clear hcz21_7
    try clear hcz21_8
    try clear hcz21_9
    try clear hcz23_0
    try clear hcz23_1
    try clear hcz23_10
    try clear hcz23_11
    try clear hcz23_12
    try clear hcz23_2
    try clear hcz23_3
    try clear hcz23_4
    try clear hcz23_5
    try clear hcz23_6
    try clear hcz23_7
    try clear hcz23_8
    try clear hcz23_9
    try clear hcz26_0
    try clear hcz26_1
    try clear hcz26_10
    try clear hcz26_11
    try clear hcz26_12
    try clear hcz26_2
    try clear hcz26_3
    try clear hcz26_4
    try clear hcz26_5
    try clear hcz26_6
    try clear hcz26_7
    try clear hcz26_8
    try clear hcz26_9
    try clear hcz28_0
    try clear hcz28_1
    try clear hcz28_10
    try clear hcz28_11
    try clear hcz28_12
    try clear hcz28_2
    try clear hcz28_3
    try clear hcz28_4
    try clear hcz28_5
    try clear hcz28_6
    try clear hcz28_7
    try clear hcz28_8
    try clear hcz28_9
    try clear hcz7_0
    try clear hcz7_1
    try clear hcz7_10
    try clear hcz7_11
    try clear hcz7_12
    try clear hcz7_2
    try clear hcz7_3
    try clear hcz7_4
    try clear hcz7_5
    try clear hcz7_6
    try clear hcz7_7
    try clear hcz7_8
    try clear hcz7_9
    try clear hfz11_0
    try clear hfz11_1
    try clear hfz11_10
    try clear hfz11_11
    try clear hfz11_12
    try clear hfz11_2
    try clear hfz11_3
    try clear hfz11_4
    try clear hfz11_5
    try clear hfz11_6
    try clear hfz11_7
    try clear hfz11_8
    try clear hfz11_9
    try clear hfz12_0
    try clear hfz12_1
    try clear hfz12_10
    try clear hfz12_11
    try clear hfz12_12
    try clear hfz12_2
    try clear hfz12_3
    try clear hfz12_4
    try clear hfz12_5
    try clear hfz12_6
    try clear hfz12_7
    try clear hfz12_8
    try clear hfz12_9
    try clear hfz17_0
    try clear hfz17_1
    try clear hfz17_10
    try clear hfz17_11
    try clear hfz17_12
    try clear hfz17_2
    try clear hfz17_3
    try clear hfz17_4
    try clear hfz17_5
    try clear hfz17_6
    try clear hfz17_7
    try clear hfz17_8
    try clear hfz17_9
    try clear hfz21_0
    try clear hfz21_1
    try clear hfz21_10
    try clear hfz21_11
    try clear hfz21_12
    try clear hfz21_2
    try clear hfz21_3
    try clear hfz21_4
    try clear hfz21_5
    try clear hfz21_6
    try clear hfz21_7
    try clear hfz21_8
    try clear hfz21_9
    try clear hfz23_0
    try clear hfz23_1
    try clear hfz23_10
    try clear hfz23_11
    try clear hfz23_12
    try clear hfz23_2
    try clear hfz23_3
    try clear hfz23_4
    try clear hfz23_5
    try clear hfz23_6
    try clear hfz23_7
    try clear hfz23_8
    try clear hfz23_9
    try clear hfz26_0
    try clear hfz26_1
    try clear hfz26_10
    try clear hfz26_11
    try clear hfz26_12
    try clear hfz26_2
    try clear hfz26_3
    try clear hfz26_4
    try clear hfz26_5
    try clear hfz26_6
    try clear hfz26_7
    try clear hfz26_8
    try clear hfz26_9
    try clear hfz28_0
    try clear hfz28_1
    try clear hfz28_10
    try clear hfz28_11
    try clear hfz28_12
    try clear hfz28_2
    try clear hfz28_3
    try clear hfz28_4
    try clear hfz28_5
    try clear hfz28_6
    try clear hfz28_7
    try clear hfz28_8
    try clear hfz28_9
    try clear hfz7_0
    try clear hfz7_1
    try clear hfz7_10
    try clear hfz7_11
    try clear hfz7_12
    try clear hfz7_2
    try clear hfz7_3
    try clear hfz7_4
    try clear hfz7_5
    try clear hfz7_6
    try clear hfz7_7
    try clear hfz7_8
    try clear hfz7_9
    obtain ⟨kq, x30_4, rfl, HA, HJ4, BK288, BK303, BK318, HB⟩ := hcut
    cases kq with
    | zero => exact absurd HA.out (by simp [timesynclaw30_ServerKisses.j0])
    | succ kj4 =>
      have H := HA.out
      clear HA
      simp only [timesynclaw30_ServerKisses.j0] at H
      by_cases c29 : x30_4 = true
      · subst c29
        have H1 : (none) = some r := by rw [if_pos rfl] at H; exact H
        clear H
        have H := H1
        clear H1
        exact absurd H (by simp)
      · replace c29 := Bool.eq_false_iff.mpr c29
        subst c29
        have H1 : ((ntpmsg_Kiss.f kj4 t289 t290 t291 t292 t293 t294 t295 t296 t297 t298 t299 t300 t301).bind fun bt319 => (if t302 = 0 then (if bt319.2 = true then (if bt319.1.toList = a1.toList then ((ntpmsg_Synced.f t289 t290 t291 t292 t293 t294 t295 t296 t297 t298 t299 t300 t301).bind fun t321 => (if t321 = true then (none) else ((timesynclaw30_awake.f kj4).bind fun t322 => (if t322 = true then (some true) else (none))))) else (none)) else (none)) else ((timesynclaw30_awake.f kj4).bind fun t323 => (if t323 = true then (some true) else (none))))) = some r := by rw [if_neg (show ¬ (false = true) by decide)] at H; exact H
        clear H
        have H := H1
        clear H1
        replace H := Option.bind_eq_some_iff.mp H
        obtain ⟨⟨t319, t320⟩, A300, H⟩ := H
        replace H : (if t302 = 0 then (if t320 = true then (if t319.toList = a1.toList then ((ntpmsg_Synced.f t289 t290 t291 t292 t293 t294 t295 t296 t297 t298 t299 t300 t301).bind fun t321 => (if t321 = true then (none) else ((timesynclaw30_awake.f kj4).bind fun t322 => (if t322 = true then (some true) else (none))))) else (none)) else (none)) else ((timesynclaw30_awake.f kj4).bind fun t323 => (if t323 = true then (some true) else (none)))) = some r := H
        have A30 := Aside0.mk A300
        clear A300
        by_cases c31 : t302 = 0
        · rw [if_pos c31] at H
          have c31b0 : (t302 == 0) = true := beq_iff_eq.mpr c31
          have c31b1 : (t302 != 0) = false := bne_eq_false_iff_eq.mpr c31
          clear c31
          by_cases c32 : t320 = true
          · subst c32
            have H1 : (if t319.toList = a1.toList then ((ntpmsg_Synced.f t289 t290 t291 t292 t293 t294 t295 t296 t297 t298 t299 t300 t301).bind fun t321 => (if t321 = true then (none) else ((timesynclaw30_awake.f kj4).bind fun t322 => (if t322 = true then (some true) else (none))))) else (none)) = some r := by rw [if_pos rfl] at H; exact H
            clear H
            have H := H1
            clear H1
            by_cases c33 : t319.toList = a1.toList
            · rw [if_pos c33] at H
              have c33b0 : (t319.toList == a1.toList) = true := beq_iff_eq.mpr c33
              have c33b1 : (t319.toList != a1.toList) = false := bne_eq_false_iff_eq.mpr c33
              clear c33
              replace H := Option.bind_eq_some_iff.mp H
              obtain ⟨t321, A340, H⟩ := H
              replace H : (if t321 = true then (none) else ((timesynclaw30_awake.f kj4).bind fun t322 => (if t322 = true then (some true) else (none)))) = some r := H
              have A34 := Aside0.mk A340
              clear A340
              by_cases c35 : t321 = true
              · subst c35
                have H1 : (none) = some r := by rw [if_pos rfl] at H; exact H
                clear H
                have H := H1
                clear H1
                exact absurd H (by simp)
              · replace c35 := Bool.eq_false_iff.mpr c35
                subst c35
                have H1 : ((timesynclaw30_awake.f kj4).bind fun t322 => (if t322 = true then (some true) else (none))) = some r := by rw [if_neg (show ¬ (false = true) by decide)] at H; exact H
                clear H
                have H := H1
                clear H1
                replace H := Option.bind_eq_some_iff.mp H
                obtain ⟨t322, A360, H⟩ := H
                replace H : (if t322 = true then (some true) else (none)) = some r := H
                have A36 := Aside0.mk A360
                clear A360
                by_cases c37 : t322 = true
                · subst c37
                  have H1 : (some true) = some r := by rw [if_pos rfl] at H; exact H
                  clear H
                  have H := H1
                  clear H1
                  obtain rfl := Option.some.inj H
                  have hnb38 := NB303_288.out
                  have hnc38 := NB288_303.out
                  have hnb39 := NB303_318.out
                  have hnc39 := NB318_303.out
                  have hcz40_0 : wc.cell? ⟨gb303, 0, none⟩ = some (.int .i64 t289) := (blk_cell BK303.out 0).trans rfl
                  have hcz40_1 : wc.cell? ⟨gb303, 1, none⟩ = some (.int .i64 t290) := (blk_cell BK303.out 1).trans rfl
                  have hcz40_2 : wc.cell? ⟨gb303, 2, none⟩ = some (.int .i64 t291) := (blk_cell BK303.out 2).trans rfl
                  have hcz40_3 : wc.cell? ⟨gb303, 3, none⟩ = some (.int .i64 t292) := (blk_cell BK303.out 3).trans rfl
                  have hcz40_4 : wc.cell? ⟨gb303, 4, none⟩ = some (.int .i64 t293) := (blk_cell BK303.out 4).trans rfl
                  have hcz40_5 : wc.cell? ⟨gb303, 5, none⟩ = some (.int .i64 t294) := (blk_cell BK303.out 5).trans rfl
                  have hcz40_6 : wc.cell? ⟨gb303, 6, none⟩ = some (.int .u32 t295) := (blk_cell BK303.out 6).trans rfl
                  have hcz40_7 : wc.cell? ⟨gb303, 7, none⟩ = some (.int .u32 t296) := (blk_cell BK303.out 7).trans rfl
                  have hcz40_8 : wc.cell? ⟨gb303, 8, none⟩ = some (.int .u32 t297) := (blk_cell BK303.out 8).trans rfl
                  have hcz40_9 : wc.cell? ⟨gb303, 9, none⟩ = some (.int .u64 t298) := (blk_cell BK303.out 9).trans rfl
                  have hcz40_10 : wc.cell? ⟨gb303, 10, none⟩ = some (.int .u64 t299) := (blk_cell BK303.out 10).trans rfl
                  have hcz40_11 : wc.cell? ⟨gb303, 11, none⟩ = some (.int .u64 t300) := (blk_cell BK303.out 11).trans rfl
                  have hcz40_12 : wc.cell? ⟨gb303, 12, none⟩ = some (.int .u64 t301) := (blk_cell BK303.out 12).trans rfl
                  have hfz40_0 := blk_frozen BK303.out 0
                  have hfz40_1 := blk_frozen BK303.out 1
                  have hfz40_2 := blk_frozen BK303.out 2
                  have hfz40_3 := blk_frozen BK303.out 3
                  have hfz40_4 := blk_frozen BK303.out 4
                  have hfz40_5 := blk_frozen BK303.out 5
                  have hfz40_6 := blk_frozen BK303.out 6
                  have hfz40_7 := blk_frozen BK303.out 7
                  have hfz40_8 := blk_frozen BK303.out 8
                  have hfz40_9 := blk_frozen BK303.out 9
                  have hfz40_10 := blk_frozen BK303.out 10
                  have hfz40_11 := blk_frozen BK303.out 11
                  have hfz40_12 := blk_frozen BK303.out 12
                  go_wp2_with (first | ((with_reducible refine gate_callee (f := 16) rfl ?_); refine goesL_ (some 33) rfl rfl Try.func16 (by kernel_rfl) rfl #[.agg #[.int .i64 t289, .int .i64 t290, .int .i64 t291, .int .i64 t292, .int .i64 t293, .int .i64 t294, .int .u32 t295, .int .u32 t296, .int .u32 t297, .int .u64 t298, .int .u64 t299, .int .u64 t300, .int .u64 t301]] rfl (by (try simp only [List.map_toArray, List.map_cons, List.map_nil]); first | done | rfl | (simp only [List.length_drop, List.length_take]; rfl)) ?_; (with_reducible refine (ntpmsg_Kiss.calls kj4 t289 t290 t291 t292 t293 t294 t295 t296 t297 t298 t299 t300 t301 t319 true _ A30.out).mono ?_); rintro e w41 ⟨rfl, hb⟩; refine ⟨_, rfl, ?_⟩; have n0_ := Aside0.mk (blk_below (g := gb288) (o := .cells #[.int .i64 a0_0, .int .i64 a0_1, .int .i64 a0_2, .int .i64 a0_3, .int .i64 a0_4, .int .i64 a0_5, .int .u32 a0_6, .int .u32 a0_7, .int .u32 a0_8, .int .u64 a0_9, .int .u64 a0_10, .int .u64 a0_11, .int .u64 a0_12] 25 (0, 0)) (by (with_reducible repeat (first | refine blk_drewN ?_ _ | refine blk_drew ?_ | refine blk_alloc ?_ _)); exact BK288.out) hb); have n1_ := Aside0.mk (blk_below (g := gb303) (o := .cells #[.int .i64 t289, .int .i64 t290, .int .i64 t291, .int .i64 t292, .int .i64 t293, .int .i64 t294, .int .u32 t295, .int .u32 t296, .int .u32 t297, .int .u64 t298, .int .u64 t299, .int .u64 t300, .int .u64 t301] 25 (0, 0)) (by (with_reducible repeat (first | refine blk_drewN ?_ _ | refine blk_drew ?_ | refine blk_alloc ?_ _)); exact BK303.out) hb); have n2_ := Aside0.mk (blk_below (g := gb318) (o := .cells #[.int .i64 t304, .int .i64 t305, .int .i64 t306, .int .i64 t307, .int .i64 t308, .int .i64 t309, .int .u32 t310, .int .u32 t311, .int .u32 t312, .int .u64 t313, .int .u64 t314, .int .u64 t315, .int .u64 t316] 25 (0, 0)) (by (with_reducible repeat (first | refine blk_drewN ?_ _ | refine blk_drew ?_ | refine blk_alloc ?_ _)); exact BK318.out) hb); have n3_ := Aside0.mk (below_step (by repeat (first | (with_reducible first | exact HB.out | apply below_alloc | apply pw_below_drewN | apply below_drew1 | refine below_set ?_ GE288.out | refine below_set ?_ GE303.out | refine below_set ?_ GE318.out) | exact HB.out)) hb); clear BK288; clear BK303; clear BK318; clear HB; have BK288 := n0_; have BK303 := n1_; have BK318 := n2_; have HB := n3_; clear n0_ n1_ n2_ n3_; (try clear hb); (try clear hb2); (try clear hk); (try clear hi); have hcz42_0 : w41.cell? ⟨gb303, 0, none⟩ = some (.int .i64 t289) := (blk_cell BK303.out 0).trans rfl; have hcz42_1 : w41.cell? ⟨gb303, 1, none⟩ = some (.int .i64 t290) := (blk_cell BK303.out 1).trans rfl; have hcz42_2 : w41.cell? ⟨gb303, 2, none⟩ = some (.int .i64 t291) := (blk_cell BK303.out 2).trans rfl; have hcz42_3 : w41.cell? ⟨gb303, 3, none⟩ = some (.int .i64 t292) := (blk_cell BK303.out 3).trans rfl; have hcz42_4 : w41.cell? ⟨gb303, 4, none⟩ = some (.int .i64 t293) := (blk_cell BK303.out 4).trans rfl; have hcz42_5 : w41.cell? ⟨gb303, 5, none⟩ = some (.int .i64 t294) := (blk_cell BK303.out 5).trans rfl; have hcz42_6 : w41.cell? ⟨gb303, 6, none⟩ = some (.int .u32 t295) := (blk_cell BK303.out 6).trans rfl; have hcz42_7 : w41.cell? ⟨gb303, 7, none⟩ = some (.int .u32 t296) := (blk_cell BK303.out 7).trans rfl; have hcz42_8 : w41.cell? ⟨gb303, 8, none⟩ = some (.int .u32 t297) := (blk_cell BK303.out 8).trans rfl; have hcz42_9 : w41.cell? ⟨gb303, 9, none⟩ = some (.int .u64 t298) := (blk_cell BK303.out 9).trans rfl; have hcz42_10 : w41.cell? ⟨gb303, 10, none⟩ = some (.int .u64 t299) := (blk_cell BK303.out 10).trans rfl; have hcz42_11 : w41.cell? ⟨gb303, 11, none⟩ = some (.int .u64 t300) := (blk_cell BK303.out 11).trans rfl; have hcz42_12 : w41.cell? ⟨gb303, 12, none⟩ = some (.int .u64 t301) := (blk_cell BK303.out 12).trans rfl; have hfz42_0 := blk_frozen BK303.out 0; have hfz42_1 := blk_frozen BK303.out 1; have hfz42_2 := blk_frozen BK303.out 2; have hfz42_3 := blk_frozen BK303.out 3; have hfz42_4 := blk_frozen BK303.out 4; have hfz42_5 := blk_frozen BK303.out 5; have hfz42_6 := blk_frozen BK303.out 6; have hfz42_7 := blk_frozen BK303.out 7; have hfz42_8 := blk_frozen BK303.out 8; have hfz42_9 := blk_frozen BK303.out 9; have hfz42_10 := blk_frozen BK303.out 10; have hfz42_11 := blk_frozen BK303.out 11; have hfz42_12 := blk_frozen BK303.out 12) | (go_at_call 17; (with_reducible refine (ntpmsg_Synced.calls t289 t290 t291 t292 t293 t294 t295 t296 t297 t298 t299 t300 t301 false _ A34.out).mono ?_); rintro e w43 ⟨rfl, hb⟩; have n0_ := Aside0.mk (blk_below (g := gb288) (o := .cells #[.int .i64 a0_0, .int .i64 a0_1, .int .i64 a0_2, .int .i64 a0_3, .int .i64 a0_4, .int .i64 a0_5, .int .u32 a0_6, .int .u32 a0_7, .int .u32 a0_8, .int .u64 a0_9, .int .u64 a0_10, .int .u64 a0_11, .int .u64 a0_12] 25 (0, 0)) (by (with_reducible repeat (first | refine blk_drewN ?_ _ | refine blk_drew ?_ | refine blk_alloc ?_ _)); exact BK288.out) hb); have n1_ := Aside0.mk (blk_below (g := gb303) (o := .cells #[.int .i64 t289, .int .i64 t290, .int .i64 t291, .int .i64 t292, .int .i64 t293, .int .i64 t294, .int .u32 t295, .int .u32 t296, .int .u32 t297, .int .u64 t298, .int .u64 t299, .int .u64 t300, .int .u64 t301] 25 (0, 0)) (by (with_reducible repeat (first | refine blk_drewN ?_ _ | refine blk_drew ?_ | refine blk_alloc ?_ _)); exact BK303.out) hb); have n2_ := Aside0.mk (blk_below (g := gb318) (o := .cells #[.int .i64 t304, .int .i64 t305, .int .i64 t306, .int .i64 t307, .int .i64 t308, .int .i64 t309, .int .u32 t310, .int .u32 t311, .int .u32 t312, .int .u64 t313, .int .u64 t314, .int .u64 t315, .int .u64 t316] 25 (0, 0)) (by (with_reducible repeat (first | refine blk_drewN ?_ _ | refine blk_drew ?_ | refine blk_alloc ?_ _)); exact BK318.out) hb); have n3_ := Aside0.mk (below_step (by repeat (first | (with_reducible first | exact HB.out | apply below_alloc | apply pw_below_drewN | apply below_drew1 | refine below_set ?_ GE288.out | refine below_set ?_ GE303.out | refine below_set ?_ GE318.out) | exact HB.out)) hb); clear BK288; clear BK303; clear BK318; clear HB; have BK288 := n0_; have BK303 := n1_; have BK318 := n2_; have HB := n3_; clear n0_ n1_ n2_ n3_; (try clear hb); (try clear hb2); (try clear hk); (try clear hi)) | (go_at_call 11; (with_reducible refine (timesynclaw30_awake.calls kj4  true _ A36.out).mono ?_); rintro e w44 ⟨rfl, hb⟩; have n0_ := Aside0.mk (blk_below (g := gb288) (o := .cells #[.int .i64 a0_0, .int .i64 a0_1, .int .i64 a0_2, .int .i64 a0_3, .int .i64 a0_4, .int .i64 a0_5, .int .u32 a0_6, .int .u32 a0_7, .int .u32 a0_8, .int .u64 a0_9, .int .u64 a0_10, .int .u64 a0_11, .int .u64 a0_12] 25 (0, 0)) (by (with_reducible repeat (first | refine blk_drewN ?_ _ | refine blk_drew ?_ | refine blk_alloc ?_ _)); exact BK288.out) hb); have n1_ := Aside0.mk (blk_below (g := gb303) (o := .cells #[.int .i64 t289, .int .i64 t290, .int .i64 t291, .int .i64 t292, .int .i64 t293, .int .i64 t294, .int .u32 t295, .int .u32 t296, .int .u32 t297, .int .u64 t298, .int .u64 t299, .int .u64 t300, .int .u64 t301] 25 (0, 0)) (by (with_reducible repeat (first | refine blk_drewN ?_ _ | refine blk_drew ?_ | refine blk_alloc ?_ _)); exact BK303.out) hb); have n2_ := Aside0.mk (blk_below (g := gb318) (o := .cells #[.int .i64 t304, .int .i64 t305, .int .i64 t306, .int .i64 t307, .int .i64 t308, .int .i64 t309, .int .u32 t310, .int .u32 t311, .int .u32 t312, .int .u64 t313, .int .u64 t314, .int .u64 t315, .int .u64 t316] 25 (0, 0)) (by (with_reducible repeat (first | refine blk_drewN ?_ _ | refine blk_drew ?_ | refine blk_alloc ?_ _)); exact BK318.out) hb); have n3_ := Aside0.mk (below_step (by repeat (first | (with_reducible first | exact HB.out | apply below_alloc | apply pw_below_drewN | apply below_drew1 | refine below_set ?_ GE288.out | refine below_set ?_ GE303.out | refine below_set ?_ GE318.out) | exact HB.out)) hb); clear BK288; clear BK303; clear BK318; clear HB; have BK288 := n0_; have BK303 := n1_; have BK318 := n2_; have HB := n3_; clear n0_ n1_ n2_ n3_; (try clear hb); (try clear hb2); (try clear hk); (try clear hi)))
                  go_ret
                  exact ⟨by first | rfl | (simp [errW_none, errW_some] <;> rfl) | (simp [*, errW_none, errW_some] <;> rfl), by repeat (first | (with_reducible first | exact HB.out | apply below_alloc | apply pw_below_drewN | apply below_drew1 | refine below_set ?_ GE288.out | refine below_set ?_ GE303.out | refine below_set ?_ GE318.out) | exact HB.out)⟩
                · replace c37 := Bool.eq_false_iff.mpr c37
                  subst c37
                  have H1 : (none) = some r := by rw [if_neg (show ¬ (false = true) by decide)] at H; exact H
                  clear H
                  have H := H1
                  clear H1
                  exact absurd H (by simp)
            · rw [if_neg c33] at H
              exact absurd H (by simp)
          · replace c32 := Bool.eq_false_iff.mpr c32
            subst c32
            have H1 : (none) = some r := by rw [if_neg (show ¬ (false = true) by decide)] at H; exact H
            clear H
            have H := H1
            clear H1
            exact absurd H (by simp)
        · rw [if_neg c31] at H
          have c31b0 : (t302 == 0) = false := beq_eq_false_iff_ne.mpr c31
          have c31b1 : (t302 != 0) = true := bne_iff_ne.mpr c31
          replace H := Option.bind_eq_some_iff.mp H
          obtain ⟨t323, A450, H⟩ := H
          replace H : (if t323 = true then (some true) else (none)) = some r := H
          have A45 := Aside0.mk A450
          clear A450
          by_cases c46 : t323 = true
          · subst c46
            have H1 : (some true) = some r := by rw [if_pos rfl] at H; exact H
            clear H
            have H := H1
            clear H1
            obtain rfl := Option.some.inj H
            have hnb47 := NB303_288.out
            have hnc47 := NB288_303.out
            have hnb48 := NB303_318.out
            have hnc48 := NB318_303.out
            have hcz49_0 : wc.cell? ⟨gb303, 0, none⟩ = some (.int .i64 t289) := (blk_cell BK303.out 0).trans rfl
            have hcz49_1 : wc.cell? ⟨gb303, 1, none⟩ = some (.int .i64 t290) := (blk_cell BK303.out 1).trans rfl
            have hcz49_2 : wc.cell? ⟨gb303, 2, none⟩ = some (.int .i64 t291) := (blk_cell BK303.out 2).trans rfl
            have hcz49_3 : wc.cell? ⟨gb303, 3, none⟩ = some (.int .i64 t292) := (blk_cell BK303.out 3).trans rfl
            have hcz49_4 : wc.cell? ⟨gb303, 4, none⟩ = some (.int .i64 t293) := (blk_cell BK303.out 4).trans rfl
            have hcz49_5 : wc.cell? ⟨gb303, 5, none⟩ = some (.int .i64 t294) := (blk_cell BK303.out 5).trans rfl
            have hcz49_6 : wc.cell? ⟨gb303, 6, none⟩ = some (.int .u32 t295) := (blk_cell BK303.out 6).trans rfl
            have hcz49_7 : wc.cell? ⟨gb303, 7, none⟩ = some (.int .u32 t296) := (blk_cell BK303.out 7).trans rfl
            have hcz49_8 : wc.cell? ⟨gb303, 8, none⟩ = some (.int .u32 t297) := (blk_cell BK303.out 8).trans rfl
            have hcz49_9 : wc.cell? ⟨gb303, 9, none⟩ = some (.int .u64 t298) := (blk_cell BK303.out 9).trans rfl
            have hcz49_10 : wc.cell? ⟨gb303, 10, none⟩ = some (.int .u64 t299) := (blk_cell BK303.out 10).trans rfl
            have hcz49_11 : wc.cell? ⟨gb303, 11, none⟩ = some (.int .u64 t300) := (blk_cell BK303.out 11).trans rfl
            have hcz49_12 : wc.cell? ⟨gb303, 12, none⟩ = some (.int .u64 t301) := (blk_cell BK303.out 12).trans rfl
            have hfz49_0 := blk_frozen BK303.out 0
            have hfz49_1 := blk_frozen BK303.out 1
            have hfz49_2 := blk_frozen BK303.out 2
            have hfz49_3 := blk_frozen BK303.out 3
            have hfz49_4 := blk_frozen BK303.out 4
            have hfz49_5 := blk_frozen BK303.out 5
            have hfz49_6 := blk_frozen BK303.out 6
            have hfz49_7 := blk_frozen BK303.out 7
            have hfz49_8 := blk_frozen BK303.out 8
            have hfz49_9 := blk_frozen BK303.out 9
            have hfz49_10 := blk_frozen BK303.out 10
            have hfz49_11 := blk_frozen BK303.out 11
            have hfz49_12 := blk_frozen BK303.out 12
            go_wp2_with (first | ((with_reducible refine gate_callee (f := 16) rfl ?_); refine goesL_ (some 33) rfl rfl Try.func16 (by kernel_rfl) rfl #[.agg #[.int .i64 t289, .int .i64 t290, .int .i64 t291, .int .i64 t292, .int .i64 t293, .int .i64 t294, .int .u32 t295, .int .u32 t296, .int .u32 t297, .int .u64 t298, .int .u64 t299, .int .u64 t300, .int .u64 t301]] rfl (by (try simp only [List.map_toArray, List.map_cons, List.map_nil]); first | done | rfl | (simp only [List.length_drop, List.length_take]; rfl)) ?_; (with_reducible refine (ntpmsg_Kiss.calls kj4 t289 t290 t291 t292 t293 t294 t295 t296 t297 t298 t299 t300 t301 t319 t320 _ A30.out).mono ?_); rintro e w50 ⟨rfl, hb⟩; refine ⟨_, rfl, ?_⟩; have n0_ := Aside0.mk (blk_below (g := gb288) (o := .cells #[.int .i64 a0_0, .int .i64 a0_1, .int .i64 a0_2, .int .i64 a0_3, .int .i64 a0_4, .int .i64 a0_5, .int .u32 a0_6, .int .u32 a0_7, .int .u32 a0_8, .int .u64 a0_9, .int .u64 a0_10, .int .u64 a0_11, .int .u64 a0_12] 25 (0, 0)) (by (with_reducible repeat (first | refine blk_drewN ?_ _ | refine blk_drew ?_ | refine blk_alloc ?_ _)); exact BK288.out) hb); have n1_ := Aside0.mk (blk_below (g := gb303) (o := .cells #[.int .i64 t289, .int .i64 t290, .int .i64 t291, .int .i64 t292, .int .i64 t293, .int .i64 t294, .int .u32 t295, .int .u32 t296, .int .u32 t297, .int .u64 t298, .int .u64 t299, .int .u64 t300, .int .u64 t301] 25 (0, 0)) (by (with_reducible repeat (first | refine blk_drewN ?_ _ | refine blk_drew ?_ | refine blk_alloc ?_ _)); exact BK303.out) hb); have n2_ := Aside0.mk (blk_below (g := gb318) (o := .cells #[.int .i64 t304, .int .i64 t305, .int .i64 t306, .int .i64 t307, .int .i64 t308, .int .i64 t309, .int .u32 t310, .int .u32 t311, .int .u32 t312, .int .u64 t313, .int .u64 t314, .int .u64 t315, .int .u64 t316] 25 (0, 0)) (by (with_reducible repeat (first | refine blk_drewN ?_ _ | refine blk_drew ?_ | refine blk_alloc ?_ _)); exact BK318.out) hb); have n3_ := Aside0.mk (below_step (by repeat (first | (with_reducible first | exact HB.out | apply below_alloc | apply pw_below_drewN | apply below_drew1 | refine below_set ?_ GE288.out | refine below_set ?_ GE303.out | refine below_set ?_ GE318.out) | exact HB.out)) hb); clear BK288; clear BK303; clear BK318; clear HB; have BK288 := n0_; have BK303 := n1_; have BK318 := n2_; have HB := n3_; clear n0_ n1_ n2_ n3_; (try clear hb); (try clear hb2); (try clear hk); (try clear hi)) | (go_at_call 11; (with_reducible refine (timesynclaw30_awake.calls kj4  true _ A45.out).mono ?_); rintro e w51 ⟨rfl, hb⟩; have n0_ := Aside0.mk (blk_below (g := gb288) (o := .cells #[.int .i64 a0_0, .int .i64 a0_1, .int .i64 a0_2, .int .i64 a0_3, .int .i64 a0_4, .int .i64 a0_5, .int .u32 a0_6, .int .u32 a0_7, .int .u32 a0_8, .int .u64 a0_9, .int .u64 a0_10, .int .u64 a0_11, .int .u64 a0_12] 25 (0, 0)) (by (with_reducible repeat (first | refine blk_drewN ?_ _ | refine blk_drew ?_ | refine blk_alloc ?_ _)); exact BK288.out) hb); have n1_ := Aside0.mk (blk_below (g := gb303) (o := .cells #[.int .i64 t289, .int .i64 t290, .int .i64 t291, .int .i64 t292, .int .i64 t293, .int .i64 t294, .int .u32 t295, .int .u32 t296, .int .u32 t297, .int .u64 t298, .int .u64 t299, .int .u64 t300, .int .u64 t301] 25 (0, 0)) (by (with_reducible repeat (first | refine blk_drewN ?_ _ | refine blk_drew ?_ | refine blk_alloc ?_ _)); exact BK303.out) hb); have n2_ := Aside0.mk (blk_below (g := gb318) (o := .cells #[.int .i64 t304, .int .i64 t305, .int .i64 t306, .int .i64 t307, .int .i64 t308, .int .i64 t309, .int .u32 t310, .int .u32 t311, .int .u32 t312, .int .u64 t313, .int .u64 t314, .int .u64 t315, .int .u64 t316] 25 (0, 0)) (by (with_reducible repeat (first | refine blk_drewN ?_ _ | refine blk_drew ?_ | refine blk_alloc ?_ _)); exact BK318.out) hb); have n3_ := Aside0.mk (below_step (by repeat (first | (with_reducible first | exact HB.out | apply below_alloc | apply pw_below_drewN | apply below_drew1 | refine below_set ?_ GE288.out | refine below_set ?_ GE303.out | refine below_set ?_ GE318.out) | exact HB.out)) hb); clear BK288; clear BK303; clear BK318; clear HB; have BK288 := n0_; have BK303 := n1_; have BK318 := n2_; have HB := n3_; clear n0_ n1_ n2_ n3_; (try clear hb); (try clear hb2); (try clear hk); (try clear hi)))
            go_ret
            exact ⟨by first | rfl | (simp [errW_none, errW_some] <;> rfl) | (simp [*, errW_none, errW_some] <;> rfl), by repeat (first | (with_reducible first | exact HB.out | apply below_alloc | apply pw_below_drewN | apply below_drew1 | refine below_set ?_ GE288.out | refine below_set ?_ GE303.out | refine below_set ?_ GE318.out) | exact HB.out)⟩
          · replace c46 := Bool.eq_false_iff.mpr c46
            subst c46
            have H1 : (none) = some r := by rw [if_neg (show ¬ (false = true) by decide)] at H; exact H
            clear H
            have H := H1
            clear H1
            exact absurd H (by simp)

end Go.Proofs.Ythneihebdlppeaa.P
