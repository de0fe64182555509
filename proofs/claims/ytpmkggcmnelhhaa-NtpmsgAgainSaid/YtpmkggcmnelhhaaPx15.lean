-- Written by xp.py, a program of this session, over the print of the loaded program; Lean checks it.
import Derived.Test.YtpmkggcmnelhhaaPx0
import Derived.Test.YtpmkggcmnelhhaaPx1
import Derived.Test.YtpmkggcmnelhhaaPx3
import Derived.Test.YtpmkggcmnelhhaaPx6
import Derived.Test.YtpmkggcmnelhhaaPx12
import Derived.Test.YtpmkggcmnelhhaaPx13
import Derived.Test.YtpmkggcmnelhhaaPx14
import Derived.Test.YtpmkggcmnelhhaaXDec
namespace Go.Proofs.Ytpmkggcmnelhhaa.P
open Go.RowKit Go.Proofs.YtpmkggcmnelhhaaW.PrintWords Go.Proofs.YtpmkggcmnelhhaaW.PrintLast Go.Proofs.YtpmkggcmnelhhaaW.PrintMore
attribute [local go_sem] max2_int min2_int max_two min_two max_three min_three max_four min_four Go.Proofs.Ytpmkggcmnelhhaa.Op.isSome_setCell   -- for this text's walks alone
set_option linter.unusedVariables false
set_option linter.unusedSimpArgs false

attribute [local go_sem high] eqA25
/-! ### timesynclaw19_awake: function 13 -/
mutual
def timesynclaw19_awake.j0 : Nat → List Int → Bool → Int → Int → Int → Int → Int → Int → Int → Int → Int → Int → Int → Int → Int → Option (Bool)
  | 0, _, _, _, _, _, _, _, _, _, _, _, _, _, _, _ => none
  | k + 1, x2, x56, x166000, x166001, x166002, x166003, x166004, x166005, x166006, x166007, x166008, x166009, x166010, x166011, x166012 => if x56 = true then (none) else (timesynclaw19_awake.l0 k x2 4 x166000 x166001 x166002 x166003 x166004 x166005 x166006 x166007 x166008 x166009 x166010 x166011 x166012)
def timesynclaw19_awake.l0 : Nat → List Int → Int → Int → Int → Int → Int → Int → Int → Int → Int → Int → Int → Int → Int → Int → Option (Bool)
  | 0, _, _, _, _, _, _, _, _, _, _, _, _, _, _, _ => none
  | k + 1, x2, x4, x166000, x166001, x166002, x166003, x166004, x166005, x166006, x166007, x166008, x166009, x166010, x166011, x166012 => if x4 < 48 then (if 0 ≤ x4 then (if x4 < (x2.length : Int) then (if (rd x2 x4) = ((mx 0 (wrap64 (x4 - 39))) % 256) then (timesynclaw19_awake.l0 k x2 (wrap64 (x4 + 1)) x166000 x166001 x166002 x166003 x166004 x166005 x166006 x166007 x166008 x166009 x166010 x166011 x166012) else (none)) else (none)) else (none)) else ((some (([] : List Int) : List Int)).bind fun y176 => (if y176.length + x2.length < 140737488355328 then ((some (y176 ++ x2 : List Int)).bind fun y179 => (if y179.length < 140737488355328 then ((ntpmsg_Decode.f (y179 ++ [9])).bind fun bt185 => (if 47 ≤ (x2.length : Int) then ((ntpmsg_Decode.f (x2.take 47)).bind fun bt207 => ((ntpmsg_Code.f k (⟨#[82, 65, 84, 69]⟩ : ByteArray)).bind fun bt225 => ((ntpmsg_Kiss.f k 0 0 0 0 0 0 0 0 1380013125 0 0 0 0).bind fun bt227 => (if (bt185.1 == x166000 && (bt185.2.1 == x166001 && (bt185.2.2.1 == x166002 && (bt185.2.2.2.1 == x166003 && (bt185.2.2.2.2.1 == x166004 && (bt185.2.2.2.2.2.1 == x166005 && (bt185.2.2.2.2.2.2.1 == x166006 && (bt185.2.2.2.2.2.2.2.1 == x166007 && (bt185.2.2.2.2.2.2.2.2.1 == x166008 && (bt185.2.2.2.2.2.2.2.2.2.1 == x166009 && (bt185.2.2.2.2.2.2.2.2.2.2.1 == x166010 && (bt185.2.2.2.2.2.2.2.2.2.2.2.1 == x166011 && (bt185.2.2.2.2.2.2.2.2.2.2.2.2.1 == x166012))))))))))))) = true then (if (bt185.2.2.2.2.2.2.2.2.2.2.2.2.2.1.length : Int) = 1 then (if 0 < (bt185.2.2.2.2.2.2.2.2.2.2.2.2.2.1.length : Int) then (if (rd bt185.2.2.2.2.2.2.2.2.2.2.2.2.2.1 0) = 9 then (if bt185.2.2.2.2.2.2.2.2.2.2.2.2.2.2 = 0 then (if bt207.2.2.2.2.2.2.2.2.2.2.2.2.2.2 = 5 then (if bt225.1 = 1380013125 then (if bt225.2 = 0 then (if bt227.1.toList = ([82, 65, 84, 69] : List UInt8) then (if bt227.2 = true then ((ntpmsg_Synced.f x166000 x166001 x166002 x166003 x166004 x166005 x166006 x166007 x166008 x166009 x166010 x166011 x166012).bind fun t230 => (if t230 = true then (none) else ((ntpmsg_Synced.f 0 0 0 1 0 0 0 0 0 0 0 0 0).bind fun t231 => (if t231 = true then (some true) else (none))))) else (none)) else (none)) else (none)) else (none)) else (none)) else (none)) else (none)) else (none)) else (none)) else (none))))) else (none))) else (none))) else (none)))
end
def timesynclaw19_awake.f (k : Nat)  : Option (Bool) := (ntpmsg_Encode.f k 0 4 3 0 6 (-20) 0 0 0 0 0 0 72623859790382856).bind fun bt166 => (if (bt166.1.length : Int) = 48 then (if bt166.2 = 0 then ((ntpmsg_Check.f 0 4 3 0 6 (-20) 0 0 0 0 0 0 72623859790382856).bind fun t170 => (if t170 = 0 then (if 0 < (bt166.1.length : Int) then (if (rd bt166.1 0) = 35 then (if 1 < (bt166.1.length : Int) then (if (rd bt166.1 1) = 0 then (if 2 < (bt166.1.length : Int) then (if (rd bt166.1 2) = 6 then (if 3 < (bt166.1.length : Int) then (timesynclaw19_awake.j0 k bt166.1 ((rd bt166.1 3) != 236) 0 4 3 0 6 (-20) 0 0 0 0 0 0 72623859790382856) else (none)) else (timesynclaw19_awake.j0 k bt166.1 true 0 4 3 0 6 (-20) 0 0 0 0 0 0 72623859790382856)) else (none)) else (timesynclaw19_awake.j0 k bt166.1 true 0 4 3 0 6 (-20) 0 0 0 0 0 0 72623859790382856)) else (none)) else (timesynclaw19_awake.j0 k bt166.1 true 0 4 3 0 6 (-20) 0 0 0 0 0 0 72623859790382856)) else (none)) else (timesynclaw19_awake.j0 k bt166.1 true 0 4 3 0 6 (-20) 0 0 0 0 0 0 72623859790382856))) else (timesynclaw19_awake.j0 k bt166.1 true 0 4 3 0 6 (-20) 0 0 0 0 0 0 72623859790382856)) else (timesynclaw19_awake.j0 k bt166.1 true 0 4 3 0 6 (-20) 0 0 0 0 0 0 72623859790382856))
theorem timesynclaw19_awake.mono_l : ∀ k, (∀ y0 y1 y2 y3 y4 y5 y6 y7 y8 y9 y10 y11 y12 y13 y14, LeO (timesynclaw19_awake.j0 k y0 y1 y2 y3 y4 y5 y6 y7 y8 y9 y10 y11 y12 y13 y14) (timesynclaw19_awake.j0 (k + 1) y0 y1 y2 y3 y4 y5 y6 y7 y8 y9 y10 y11 y12 y13 y14)) ∧ (∀ y0 y1 y2 y3 y4 y5 y6 y7 y8 y9 y10 y11 y12 y13 y14, LeO (timesynclaw19_awake.l0 k y0 y1 y2 y3 y4 y5 y6 y7 y8 y9 y10 y11 y12 y13 y14) (timesynclaw19_awake.l0 (k + 1) y0 y1 y2 y3 y4 y5 y6 y7 y8 y9 y10 y11 y12 y13 y14))
  | 0 => ⟨fun _ _ _ _ _ _ _ _ _ _ _ _ _ _ _ r h => by simp [timesynclaw19_awake.j0] at h, fun _ _ _ _ _ _ _ _ _ _ _ _ _ _ _ r h => by simp [timesynclaw19_awake.l0] at h⟩
  | k + 1 => by
    obtain ⟨ih0, ih1⟩ := timesynclaw19_awake.mono_l k
    refine ⟨?_, ?_⟩
    · intro y0 y1 y2 y3 y4 y5 y6 y7 y8 y9 y10 y11 y12 y13 y14
      unfold timesynclaw19_awake.j0
      repeat' first
      | (with_reducible exact ih0 _ _ _ _ _ _ _ _ _ _ _ _ _ _ _)
      | (with_reducible exact ih1 _ _ _ _ _ _ _ _ _ _ _ _ _ _ _)
      | (with_reducible exact ntpmsg_Code.mono _ _)
      | (with_reducible exact ntpmsg_Encode.mono _ _ _ _ _ _ _ _ _ _ _ _ _ _)
      | (with_reducible exact ntpmsg_Kiss.mono _ _ _ _ _ _ _ _ _ _ _ _ _ _)
      | (with_reducible exact LeO.refl _)
      | (with_reducible exact LeO.none _)
      | (with_reducible refine LeO.ite ?_ ?_)
      | (with_reducible refine LeO.bind ?_ (fun _ => ?_))
      | exact ih0 _ _ _ _ _ _ _ _ _ _ _ _ _ _ _
      | exact ih1 _ _ _ _ _ _ _ _ _ _ _ _ _ _ _
      | exact ntpmsg_Code.mono _ _
      | exact ntpmsg_Encode.mono _ _ _ _ _ _ _ _ _ _ _ _ _ _
      | exact ntpmsg_Kiss.mono _ _ _ _ _ _ _ _ _ _ _ _ _ _
      | exact LeO.none _
      | refine LeO.ite ?_ ?_
      | refine LeO.bind ?_ (fun _ => ?_)
    · intro y0 y1 y2 y3 y4 y5 y6 y7 y8 y9 y10 y11 y12 y13 y14
      unfold timesynclaw19_awake.l0
      repeat' first
      | (with_reducible exact ih0 _ _ _ _ _ _ _ _ _ _ _ _ _ _ _)
      | (with_reducible exact ih1 _ _ _ _ _ _ _ _ _ _ _ _ _ _ _)
      | (with_reducible exact ntpmsg_Code.mono _ _)
      | (with_reducible exact ntpmsg_Encode.mono _ _ _ _ _ _ _ _ _ _ _ _ _ _)
      | (with_reducible exact ntpmsg_Kiss.mono _ _ _ _ _ _ _ _ _ _ _ _ _ _)
      | (with_reducible exact LeO.refl _)
      | (with_reducible exact LeO.none _)
      | (with_reducible refine LeO.ite ?_ ?_)
      | (with_reducible refine LeO.bind ?_ (fun _ => ?_))
      | exact ih0 _ _ _ _ _ _ _ _ _ _ _ _ _ _ _
      | exact ih1 _ _ _ _ _ _ _ _ _ _ _ _ _ _ _
      | exact ntpmsg_Code.mono _ _
      | exact ntpmsg_Encode.mono _ _ _ _ _ _ _ _ _ _ _ _ _ _
      | exact ntpmsg_Kiss.mono _ _ _ _ _ _ _ _ _ _ _ _ _ _
      | exact LeO.none _
      | refine LeO.ite ?_ ?_
      | refine LeO.bind ?_ (fun _ => ?_)
theorem timesynclaw19_awake.mono : ∀ k, LeO (timesynclaw19_awake.f k ) (timesynclaw19_awake.f (k + 1) ) := by
  intro  k
  obtain ⟨ih0, ih1⟩ := timesynclaw19_awake.mono_l k
  unfold timesynclaw19_awake.f
  repeat' first
      | (with_reducible exact ih0 _ _ _ _ _ _ _ _ _ _ _ _ _ _ _)
      | (with_reducible exact ih1 _ _ _ _ _ _ _ _ _ _ _ _ _ _ _)
      | (with_reducible exact ntpmsg_Code.mono _ _)
      | (with_reducible exact ntpmsg_Encode.mono _ _ _ _ _ _ _ _ _ _ _ _ _ _)
      | (with_reducible exact ntpmsg_Kiss.mono _ _ _ _ _ _ _ _ _ _ _ _ _ _)
      | (with_reducible exact LeO.refl _)
      | (with_reducible exact LeO.none _)
      | (with_reducible refine LeO.ite ?_ ?_)
      | (with_reducible refine LeO.bind ?_ (fun _ => ?_))
      | exact ih0 _ _ _ _ _ _ _ _ _ _ _ _ _ _ _
      | exact ih1 _ _ _ _ _ _ _ _ _ _ _ _ _ _ _
      | exact ntpmsg_Code.mono _ _
      | exact ntpmsg_Encode.mono _ _ _ _ _ _ _ _ _ _ _ _ _ _
      | exact ntpmsg_Kiss.mono _ _ _ _ _ _ _ _ _ _ _ _ _ _
      | exact LeO.none _
      | refine LeO.ite ?_ ?_
      | refine LeO.bind ?_ (fun _ => ?_)
set_option maxHeartbeats 8000000 in
set_option maxRecDepth 100000 in
theorem timesynclaw19_awake.calls (k : Nat)  (r : Bool) (w : World) (h : timesynclaw19_awake.f k  = some r) :
    Calls Try.prog 13 #[] w fun e w' => e = .returned (.bool r) ∧ Below w.heap.size w w' := by
  have hu25 := Try.underlying25
  have HB := Aside0.mk (Below.refl w.heap.size w)
  have H : ((ntpmsg_Encode.f k 0 4 3 0 6 (-20) 0 0 0 0 0 0 72623859790382856).bind fun bt166 => (if (bt166.1.length : Int) = 48 then (if bt166.2 = 0 then ((ntpmsg_Check.f 0 4 3 0 6 (-20) 0 0 0 0 0 0 72623859790382856).bind fun t170 => (if t170 = 0 then (if 0 < (bt166.1.length : Int) then (if (rd bt166.1 0) = 35 then (if 1 < (bt166.1.length : Int) then (if (rd bt166.1 1) = 0 then (if 2 < (bt166.1.length : Int) then (if (rd bt166.1 2) = 6 then (if 3 < (bt166.1.length : Int) then (timesynclaw19_awake.j0 k bt166.1 ((rd bt166.1 3) != 236) 0 4 3 0 6 (-20) 0 0 0 0 0 0 72623859790382856) else (none)) else (timesynclaw19_awake.j0 k bt166.1 true 0 4 3 0 6 (-20) 0 0 0 0 0 0 72623859790382856)) else (none)) else (timesynclaw19_awake.j0 k bt166.1 true 0 4 3 0 6 (-20) 0 0 0 0 0 0 72623859790382856)) else (none)) else (timesynclaw19_awake.j0 k bt166.1 true 0 4 3 0 6 (-20) 0 0 0 0 0 0 72623859790382856)) else (none)) else (timesynclaw19_awake.j0 k bt166.1 true 0 4 3 0 6 (-20) 0 0 0 0 0 0 72623859790382856))) else (timesynclaw19_awake.j0 k bt166.1 true 0 4 3 0 6 (-20) 0 0 0 0 0 0 72623859790382856)) else (timesynclaw19_awake.j0 k bt166.1 true 0 4 3 0 6 (-20) 0 0 0 0 0 0 72623859790382856))) = some r := h
  clear h
  replace H := Option.bind_eq_some_iff.mp H
  obtain ⟨⟨t166, t169⟩, A10, H⟩ := H
  replace H : (if (t166.length : Int) = 48 then (if t169 = 0 then ((ntpmsg_Check.f 0 4 3 0 6 (-20) 0 0 0 0 0 0 72623859790382856).bind fun t170 => (if t170 = 0 then (if 0 < (t166.length : Int) then (if (rd t166 0) = 35 then (if 1 < (t166.length : Int) then (if (rd t166 1) = 0 then (if 2 < (t166.length : Int) then (if (rd t166 2) = 6 then (if 3 < (t166.length : Int) then (timesynclaw19_awake.j0 k t166 ((rd t166 3) != 236) 0 4 3 0 6 (-20) 0 0 0 0 0 0 72623859790382856) else (none)) else (timesynclaw19_awake.j0 k t166 true 0 4 3 0 6 (-20) 0 0 0 0 0 0 72623859790382856)) else (none)) else (timesynclaw19_awake.j0 k t166 true 0 4 3 0 6 (-20) 0 0 0 0 0 0 72623859790382856)) else (none)) else (timesynclaw19_awake.j0 k t166 true 0 4 3 0 6 (-20) 0 0 0 0 0 0 72623859790382856)) else (none)) else (timesynclaw19_awake.j0 k t166 true 0 4 3 0 6 (-20) 0 0 0 0 0 0 72623859790382856))) else (timesynclaw19_awake.j0 k t166 true 0 4 3 0 6 (-20) 0 0 0 0 0 0 72623859790382856)) else (timesynclaw19_awake.j0 k t166 true 0 4 3 0 6 (-20) 0 0 0 0 0 0 72623859790382856)) = some r := H
  have A1 := Aside0.mk A10
  clear A10
  have HC2 := Aside0.mk H
  clear H
  go_enter Try.func13, Try.ntmps13
  go_upto_region 3 with (first | ((with_reducible refine gate_dst (N := 1) rfl ?_); (try (refine gate_guard (by rfl) ?_; dsimp only)); refine box_event ?hg (N := 1) ?hd (cs := #[.int .i64 0, .int .i64 0, .int .i64 0, .int .i64 0, .int .i64 0, .int .i64 0, .int .u32 0, .int .u32 0, .int .u32 0, .int .u64 0, .int .u64 0, .int .u64 0, .int .u64 0]) (t := 25) ?hr ?_; (case hd => rfl); (case hg => rfl); (case hr => first | (go_simp; done) | (go_simp; rfl)); intro gb165 hg w3 hbox hb; have n0_ := Aside0.mk (below_step (by repeat (first | (with_reducible first | exact HB.out | apply below_alloc | apply pw_below_drewN | apply below_drew1) | exact HB.out)) hb); have n1_ := Aside0.mk (hbox); have n2_ := Aside0.mk ((by rw [hg]; exact (below_size (by repeat (first | (with_reducible first | exact HB.out | apply below_alloc | apply pw_below_drewN | apply below_drew1) | exact HB.out))) : w.heap.size ≤ gb165)); have n3_ := Aside0.mk ((by rw [hg]; exact (below_size (by repeat (first | (with_reducible first | exact HB.out | apply below_alloc | apply pw_below_drewN | apply below_drew1) | exact HB.out))) : w.heap.size ≤ gb165)); clear HB; have HB := n0_; have BK165 := n1_; have GW165 := n2_; have GE165 := n3_; clear n0_ n1_ n2_ n3_; clear hb hbox hg; have hcz4_0 : w3.cell? ⟨gb165, 0, none⟩ = some (.int .i64 0) := (blk_cell BK165.out 0).trans rfl; have hcz4_1 : w3.cell? ⟨gb165, 1, none⟩ = some (.int .i64 0) := (blk_cell BK165.out 1).trans rfl; have hcz4_2 : w3.cell? ⟨gb165, 2, none⟩ = some (.int .i64 0) := (blk_cell BK165.out 2).trans rfl; have hcz4_3 : w3.cell? ⟨gb165, 3, none⟩ = some (.int .i64 0) := (blk_cell BK165.out 3).trans rfl; have hcz4_4 : w3.cell? ⟨gb165, 4, none⟩ = some (.int .i64 0) := (blk_cell BK165.out 4).trans rfl; have hcz4_5 : w3.cell? ⟨gb165, 5, none⟩ = some (.int .i64 0) := (blk_cell BK165.out 5).trans rfl; have hcz4_6 : w3.cell? ⟨gb165, 6, none⟩ = some (.int .u32 0) := (blk_cell BK165.out 6).trans rfl; have hcz4_7 : w3.cell? ⟨gb165, 7, none⟩ = some (.int .u32 0) := (blk_cell BK165.out 7).trans rfl; have hcz4_8 : w3.cell? ⟨gb165, 8, none⟩ = some (.int .u32 0) := (blk_cell BK165.out 8).trans rfl; have hcz4_9 : w3.cell? ⟨gb165, 9, none⟩ = some (.int .u64 0) := (blk_cell BK165.out 9).trans rfl; have hcz4_10 : w3.cell? ⟨gb165, 10, none⟩ = some (.int .u64 0) := (blk_cell BK165.out 10).trans rfl; have hcz4_11 : w3.cell? ⟨gb165, 11, none⟩ = some (.int .u64 0) := (blk_cell BK165.out 11).trans rfl; have hcz4_12 : w3.cell? ⟨gb165, 12, none⟩ = some (.int .u64 0) := (blk_cell BK165.out 12).trans rfl; have hfz4_0 := blk_frozen BK165.out 0; have hfz4_1 := blk_frozen BK165.out 1; have hfz4_2 := blk_frozen BK165.out 2; have hfz4_3 := blk_frozen BK165.out 3; have hfz4_4 := blk_frozen BK165.out 4; have hfz4_5 := blk_frozen BK165.out 5; have hfz4_6 := blk_frozen BK165.out 6; have hfz4_7 := blk_frozen BK165.out 7; have hfz4_8 := blk_frozen BK165.out 8; have hfz4_9 := blk_frozen BK165.out 9; have hfz4_10 := blk_frozen BK165.out 10; have hfz4_11 := blk_frozen BK165.out 11; have hfz4_12 := blk_frozen BK165.out 12) | ((with_reducible refine gate_callee (f := 8) rfl ?_); refine goesL_ (some 18) rfl rfl Try.func8 (by kernel_rfl) rfl #[.agg #[.int .i64 0, .int .i64 4, .int .i64 3, .int .i64 0, .int .i64 6, .int .i64 (-20), .int .u32 0, .int .u32 0, .int .u32 0, .int .u64 0, .int .u64 0, .int .u64 0, .int .u64 72623859790382856]] rfl (by (try simp only [List.map_toArray, List.map_cons, List.map_nil]); first | done | rfl | (simp only [List.length_drop, List.length_take]; rfl)) ?_; (with_reducible refine (ntpmsg_Encode.calls k 0 4 3 0 6 (-20) 0 0 0 0 0 0 72623859790382856 t166 t169 _ A1.out).mono ?_); rintro e w5 ⟨v167, rfl, ho0, hb⟩; refine ⟨_, rfl, ?_⟩; have n0_ := Aside0.mk (Kd.R_lower ho0 (below_size (by repeat (first | (with_reducible first | exact HB.out | apply below_alloc | apply pw_below_drewN | apply below_drew1 | refine below_set ?_ GE165.out) | exact HB.out)))); have n1_ := Aside0.mk (blk_below (g := gb165) (o := .cells #[.int .i64 0, .int .i64 4, .int .i64 3, .int .i64 0, .int .i64 6, .int .i64 (-20), .int .u32 0, .int .u32 0, .int .u32 0, .int .u64 0, .int .u64 0, .int .u64 0, .int .u64 72623859790382856] 25 (0, 0)) (by (with_reducible repeat (first | refine blk_drewN ?_ _ | refine blk_drew ?_ | refine blk_alloc ?_ _)); refine blk_put (cs := #[.int .i64 0, .int .i64 4, .int .i64 3, .int .i64 0, .int .i64 6, .int .i64 (-20), .int .u32 0, .int .u32 0, .int .u32 0, .int .u64 0, .int .u64 0, .int .u64 0, .int .u64 0]) ?_ 12 _ rfl; (with_reducible repeat (first | refine blk_drewN ?_ _ | refine blk_drew ?_ | refine blk_alloc ?_ _)); refine blk_put (cs := #[.int .i64 0, .int .i64 4, .int .i64 3, .int .i64 0, .int .i64 6, .int .i64 (-20), .int .u32 0, .int .u32 0, .int .u32 0, .int .u64 0, .int .u64 0, .int .u64 0, .int .u64 0]) ?_ 11 _ rfl; (with_reducible repeat (first | refine blk_drewN ?_ _ | refine blk_drew ?_ | refine blk_alloc ?_ _)); refine blk_put (cs := #[.int .i64 0, .int .i64 4, .int .i64 3, .int .i64 0, .int .i64 6, .int .i64 (-20), .int .u32 0, .int .u32 0, .int .u32 0, .int .u64 0, .int .u64 0, .int .u64 0, .int .u64 0]) ?_ 10 _ rfl; (with_reducible repeat (first | refine blk_drewN ?_ _ | refine blk_drew ?_ | refine blk_alloc ?_ _)); refine blk_put (cs := #[.int .i64 0, .int .i64 4, .int .i64 3, .int .i64 0, .int .i64 6, .int .i64 (-20), .int .u32 0, .int .u32 0, .int .u32 0, .int .u64 0, .int .u64 0, .int .u64 0, .int .u64 0]) ?_ 9 _ rfl; (with_reducible repeat (first | refine blk_drewN ?_ _ | refine blk_drew ?_ | refine blk_alloc ?_ _)); refine blk_put (cs := #[.int .i64 0, .int .i64 4, .int .i64 3, .int .i64 0, .int .i64 6, .int .i64 (-20), .int .u32 0, .int .u32 0, .int .u32 0, .int .u64 0, .int .u64 0, .int .u64 0, .int .u64 0]) ?_ 8 _ rfl; (with_reducible repeat (first | refine blk_drewN ?_ _ | refine blk_drew ?_ | refine blk_alloc ?_ _)); refine blk_put (cs := #[.int .i64 0, .int .i64 4, .int .i64 3, .int .i64 0, .int .i64 6, .int .i64 (-20), .int .u32 0, .int .u32 0, .int .u32 0, .int .u64 0, .int .u64 0, .int .u64 0, .int .u64 0]) ?_ 7 _ rfl; (with_reducible repeat (first | refine blk_drewN ?_ _ | refine blk_drew ?_ | refine blk_alloc ?_ _)); refine blk_put (cs := #[.int .i64 0, .int .i64 4, .int .i64 3, .int .i64 0, .int .i64 6, .int .i64 (-20), .int .u32 0, .int .u32 0, .int .u32 0, .int .u64 0, .int .u64 0, .int .u64 0, .int .u64 0]) ?_ 6 _ rfl; (with_reducible repeat (first | refine blk_drewN ?_ _ | refine blk_drew ?_ | refine blk_alloc ?_ _)); refine blk_put (cs := #[.int .i64 0, .int .i64 4, .int .i64 3, .int .i64 0, .int .i64 6, .int .i64 0, .int .u32 0, .int .u32 0, .int .u32 0, .int .u64 0, .int .u64 0, .int .u64 0, .int .u64 0]) ?_ 5 _ rfl; (with_reducible repeat (first | refine blk_drewN ?_ _ | refine blk_drew ?_ | refine blk_alloc ?_ _)); refine blk_put (cs := #[.int .i64 0, .int .i64 4, .int .i64 3, .int .i64 0, .int .i64 0, .int .i64 0, .int .u32 0, .int .u32 0, .int .u32 0, .int .u64 0, .int .u64 0, .int .u64 0, .int .u64 0]) ?_ 4 _ rfl; (with_reducible repeat (first | refine blk_drewN ?_ _ | refine blk_drew ?_ | refine blk_alloc ?_ _)); refine blk_put (cs := #[.int .i64 0, .int .i64 4, .int .i64 3, .int .i64 0, .int .i64 0, .int .i64 0, .int .u32 0, .int .u32 0, .int .u32 0, .int .u64 0, .int .u64 0, .int .u64 0, .int .u64 0]) ?_ 3 _ rfl; (with_reducible repeat (first | refine blk_drewN ?_ _ | refine blk_drew ?_ | refine blk_alloc ?_ _)); refine blk_put (cs := #[.int .i64 0, .int .i64 4, .int .i64 0, .int .i64 0, .int .i64 0, .int .i64 0, .int .u32 0, .int .u32 0, .int .u32 0, .int .u64 0, .int .u64 0, .int .u64 0, .int .u64 0]) ?_ 2 _ rfl; (with_reducible repeat (first | refine blk_drewN ?_ _ | refine blk_drew ?_ | refine blk_alloc ?_ _)); refine blk_put (cs := #[.int .i64 0, .int .i64 0, .int .i64 0, .int .i64 0, .int .i64 0, .int .i64 0, .int .u32 0, .int .u32 0, .int .u32 0, .int .u64 0, .int .u64 0, .int .u64 0, .int .u64 0]) ?_ 1 _ rfl; (with_reducible repeat (first | refine blk_drewN ?_ _ | refine blk_drew ?_ | refine blk_alloc ?_ _)); refine blk_put (cs := #[.int .i64 0, .int .i64 0, .int .i64 0, .int .i64 0, .int .i64 0, .int .i64 0, .int .u32 0, .int .u32 0, .int .u32 0, .int .u64 0, .int .u64 0, .int .u64 0, .int .u64 0]) ?_ 0 _ rfl; (with_reducible repeat (first | refine blk_drewN ?_ _ | refine blk_drew ?_ | refine blk_alloc ?_ _)); exact BK165.out) hb); have n2_ := Aside0.mk (below_step (by repeat (first | (with_reducible first | exact HB.out | apply below_alloc | apply pw_below_drewN | apply below_drew1 | refine below_set ?_ GE165.out) | exact HB.out)) hb); clear BK165; clear HB; have HO168 := n0_; have BK165 := n1_; have HB := n2_; clear n0_ n1_ n2_; (try clear hb); (try clear hb2); (try clear hk); (try clear hi); (try clear ho0)))
  (try simp only [Act.put, List.setIfInBounds_toArray, List.set_cons_zero, List.set_cons_succ])
  go_cut [56] (fun v56 wc => ∃ (kq : Nat) (x56_1 : Bool), v56 = .bool x56_1 ∧ Aside0 (timesynclaw19_awake.j0 kq t166 x56_1 0 4 3 0 6 (-20) 0 0 0 0 0 0 72623859790382856 = some r) ∧ Aside0 (kq ≤ k) ∧ Aside0 (Kd.R (Kd.int .u8) 5 wc w.heap.size (fun _ => True) v167 t166) ∧ Aside0 (wc.heap[gb165]? = some (.cells #[.int .i64 0, .int .i64 4, .int .i64 3, .int .i64 0, .int .i64 6, .int .i64 (-20), .int .u32 0, .int .u32 0, .int .u32 0, .int .u64 0, .int .u64 0, .int .u64 0, .int .u64 72623859790382856] 25 (0, 0))) ∧ Aside0 (Below w.heap.size w wc))
  case first =>
    have H := HC2.out
    clear HC2
    by_cases c6 : (t166.length : Int) = 48
    · rw [if_pos c6] at H
      have c6b0 : ((t166.length : Int) == 48) = true := beq_iff_eq.mpr c6
      have c6b1 : ((t166.length : Int) != 48) = false := bne_eq_false_iff_eq.mpr c6
      clear c6
      (first | rw [c6b0] | (simp only [i64_w, i32_w]; rw [c6b0]) | skip)
      by_cases c7 : t169 = 0
      · rw [if_pos c7] at H
        have c7b0 : (t169 == 0) = true := beq_iff_eq.mpr c7
        have c7b1 : (t169 != 0) = false := bne_eq_false_iff_eq.mpr c7
        clear c7
        replace H := Option.bind_eq_some_iff.mp H
        obtain ⟨t170, A80, H⟩ := H
        replace H : (if t170 = 0 then (if 0 < (t166.length : Int) then (if (rd t166 0) = 35 then (if 1 < (t166.length : Int) then (if (rd t166 1) = 0 then (if 2 < (t166.length : Int) then (if (rd t166 2) = 6 then (if 3 < (t166.length : Int) then (timesynclaw19_awake.j0 k t166 ((rd t166 3) != 236) 0 4 3 0 6 (-20) 0 0 0 0 0 0 72623859790382856) else (none)) else (timesynclaw19_awake.j0 k t166 true 0 4 3 0 6 (-20) 0 0 0 0 0 0 72623859790382856)) else (none)) else (timesynclaw19_awake.j0 k t166 true 0 4 3 0 6 (-20) 0 0 0 0 0 0 72623859790382856)) else (none)) else (timesynclaw19_awake.j0 k t166 true 0 4 3 0 6 (-20) 0 0 0 0 0 0 72623859790382856)) else (none)) else (timesynclaw19_awake.j0 k t166 true 0 4 3 0 6 (-20) 0 0 0 0 0 0 72623859790382856)) = some r := H
        have A8 := Aside0.mk A80
        clear A80
        by_cases c9 : t170 = 0
        · rw [if_pos c9] at H
          have c9b0 : (t170 == 0) = true := beq_iff_eq.mpr c9
          have c9b1 : (t170 != 0) = false := bne_eq_false_iff_eq.mpr c9
          clear c9
          by_cases c10 : 0 < (t166.length : Int)
          · rw [if_pos c10] at H
            have c10b0 : decide (0 < (t166.length : Int)) = true := decide_eq_true c10
            have c10b1 : decide (0 < t166.length) = true := decide_eq_true (by omega)
            clear c10
            by_cases c11 : (rd t166 0) = 35
            · rw [if_pos c11] at H
              have c11b0 : ((rd t166 0) == 35) = true := beq_iff_eq.mpr c11
              have c11b1 : ((rd t166 0) != 35) = false := bne_eq_false_iff_eq.mpr c11
              clear c11
              by_cases c12 : 1 < (t166.length : Int)
              · rw [if_pos c12] at H
                have c12b0 : decide (1 < (t166.length : Int)) = true := decide_eq_true c12
                have c12b1 : decide (1 < t166.length) = true := decide_eq_true (by omega)
                clear c12
                by_cases c13 : (rd t166 1) = 0
                · rw [if_pos c13] at H
                  have c13b0 : ((rd t166 1) == 0) = true := beq_iff_eq.mpr c13
                  have c13b1 : ((rd t166 1) != 0) = false := bne_eq_false_iff_eq.mpr c13
                  clear c13
                  by_cases c14 : 2 < (t166.length : Int)
                  · rw [if_pos c14] at H
                    have c14b0 : decide (2 < (t166.length : Int)) = true := decide_eq_true c14
                    have c14b1 : decide (2 < t166.length) = true := decide_eq_true (by omega)
                    clear c14
                    by_cases c15 : (rd t166 2) = 6
                    · rw [if_pos c15] at H
                      have c15b0 : ((rd t166 2) == 6) = true := beq_iff_eq.mpr c15
                      have c15b1 : ((rd t166 2) != 6) = false := bne_eq_false_iff_eq.mpr c15
                      clear c15
                      by_cases c16 : 3 < (t166.length : Int)
                      · rw [if_pos c16] at H
                        have c16b0 : decide (3 < (t166.length : Int)) = true := decide_eq_true c16
                        have c16b1 : decide (3 < t166.length) = true := decide_eq_true (by omega)
                        clear c16
                        have H' := Aside0.mk H
                        clear H
                        obtain ⟨Ao17, co17, eo17⟩ := Kd.R_slice HO168.out
                        subst eo17
                        have hcz18_0 : w5.cell? ⟨gb165, 0, none⟩ = some (.int .i64 0) := (blk_cell BK165.out 0).trans rfl
                        have hcz18_1 : w5.cell? ⟨gb165, 1, none⟩ = some (.int .i64 4) := (blk_cell BK165.out 1).trans rfl
                        have hcz18_2 : w5.cell? ⟨gb165, 2, none⟩ = some (.int .i64 3) := (blk_cell BK165.out 2).trans rfl
                        have hcz18_3 : w5.cell? ⟨gb165, 3, none⟩ = some (.int .i64 0) := (blk_cell BK165.out 3).trans rfl
                        have hcz18_4 : w5.cell? ⟨gb165, 4, none⟩ = some (.int .i64 6) := (blk_cell BK165.out 4).trans rfl
                        have hcz18_5 : w5.cell? ⟨gb165, 5, none⟩ = some (.int .i64 (-20)) := (blk_cell BK165.out 5).trans rfl
                        have hcz18_6 : w5.cell? ⟨gb165, 6, none⟩ = some (.int .u32 0) := (blk_cell BK165.out 6).trans rfl
                        have hcz18_7 : w5.cell? ⟨gb165, 7, none⟩ = some (.int .u32 0) := (blk_cell BK165.out 7).trans rfl
                        have hcz18_8 : w5.cell? ⟨gb165, 8, none⟩ = some (.int .u32 0) := (blk_cell BK165.out 8).trans rfl
                        have hcz18_9 : w5.cell? ⟨gb165, 9, none⟩ = some (.int .u64 0) := (blk_cell BK165.out 9).trans rfl
                        have hcz18_10 : w5.cell? ⟨gb165, 10, none⟩ = some (.int .u64 0) := (blk_cell BK165.out 10).trans rfl
                        have hcz18_11 : w5.cell? ⟨gb165, 11, none⟩ = some (.int .u64 0) := (blk_cell BK165.out 11).trans rfl
                        have hcz18_12 : w5.cell? ⟨gb165, 12, none⟩ = some (.int .u64 72623859790382856) := (blk_cell BK165.out 12).trans rfl
                        have hfz18_0 := blk_frozen BK165.out 0
                        have hfz18_1 := blk_frozen BK165.out 1
                        have hfz18_2 := blk_frozen BK165.out 2
                        have hfz18_3 := blk_frozen BK165.out 3
                        have hfz18_4 := blk_frozen BK165.out 4
                        have hfz18_5 := blk_frozen BK165.out 5
                        have hfz18_6 := blk_frozen BK165.out 6
                        have hfz18_7 := blk_frozen BK165.out 7
                        have hfz18_8 := blk_frozen BK165.out 8
                        have hfz18_9 := blk_frozen BK165.out 9
                        have hfz18_10 := blk_frozen BK165.out 10
                        have hfz18_11 := blk_frozen BK165.out 11
                        have hfz18_12 := blk_frozen BK165.out 12
                        go_wp2_with (first | (go_at_call 10; (with_reducible refine (ntpmsg_Check.calls 0 4 3 0 6 (-20) 0 0 0 0 0 0 72623859790382856 t170 _ A8.out).mono ?_); rintro e w19 ⟨rfl, hb⟩; have n0_ := Aside0.mk (Kd.R_below (by (with_reducible repeat (first | apply Kd.R_alloc | apply Kd.R_drewN | apply Kd.R_drew)); exact HO168.out) hb); have n1_ := Aside0.mk (blk_below (g := gb165) (o := .cells #[.int .i64 0, .int .i64 4, .int .i64 3, .int .i64 0, .int .i64 6, .int .i64 (-20), .int .u32 0, .int .u32 0, .int .u32 0, .int .u64 0, .int .u64 0, .int .u64 0, .int .u64 72623859790382856] 25 (0, 0)) (by (with_reducible repeat (first | refine blk_drewN ?_ _ | refine blk_drew ?_ | refine blk_alloc ?_ _)); exact BK165.out) hb); have n2_ := Aside0.mk (below_step (by repeat (first | (with_reducible first | exact HB.out | apply below_alloc | apply pw_below_drewN | apply below_drew1 | refine below_set ?_ GE165.out) | exact HB.out)) hb); clear HO168; clear BK165; clear HB; have HO168 := n0_; have BK165 := n1_; have HB := n2_; clear n0_ n1_ n2_; (try clear hb); (try clear hb2); (try clear hk); (try clear hi); have p171 : 0 ≤ (0 : Int) := (by omega); have q171 : 0 < (t166.length : Int) := of_decide_eq_true (by first | (with_reducible assumption) | assumption); obtain ⟨ad171, e171, hx171_0⟩ := Kd.at_int (Kd.R_reads' HO168.out).2.2 0 p171 q171; cases e171; have qi171 : (0 < t166.length) = True := eq_true (by omega); (try rw [show ((0 : Int)).toNat = 0 from rfl] at hx171_0); (try rw [Addr.add_zero'] at hx171_0); replace p171 := eq_true p171; replace q171 := eq_true q171; have p172 : 0 ≤ (1 : Int) := (by omega); have q172 : 1 < (t166.length : Int) := of_decide_eq_true (by first | (with_reducible assumption) | assumption); obtain ⟨ad172, e172, hx172_0⟩ := Kd.at_int (Kd.R_reads' HO168.out).2.2 1 p172 q172; obtain rfl : ad171 = ad172 := (by injection e172); (try simp only [show (1 : Int).toNat = 1 from rfl, Nat.reduceMul, Nat.reduceEqDiff, Go.Addr.add, ↓reduceIte] at hx172_0); have qi172 : (1 < t166.length) = True := eq_true (by omega); (try rw [show ((1 : Int)).toNat = 1 from rfl] at hx172_0); replace p172 := eq_true p172; replace q172 := eq_true q172; have p173 : 0 ≤ (2 : Int) := (by omega); have q173 : 2 < (t166.length : Int) := of_decide_eq_true (by first | (with_reducible assumption) | assumption); obtain ⟨ad173, e173, hx173_0⟩ := Kd.at_int (Kd.R_reads' HO168.out).2.2 2 p173 q173; obtain rfl : ad171 = ad173 := (by injection e173); (try simp only [show (2 : Int).toNat = 2 from rfl, Nat.reduceMul, Nat.reduceEqDiff, Go.Addr.add, ↓reduceIte] at hx173_0); have qi173 : (2 < t166.length) = True := eq_true (by omega); (try rw [show ((2 : Int)).toNat = 2 from rfl] at hx173_0); replace p173 := eq_true p173; replace q173 := eq_true q173; have p174 : 0 ≤ (3 : Int) := (by omega); have q174 : 3 < (t166.length : Int) := of_decide_eq_true (by first | (with_reducible assumption) | assumption); obtain ⟨ad174, e174, hx174_0⟩ := Kd.at_int (Kd.R_reads' HO168.out).2.2 3 p174 q174; obtain rfl : ad171 = ad174 := (by injection e174); (try simp only [show (3 : Int).toNat = 3 from rfl, Nat.reduceMul, Nat.reduceEqDiff, Go.Addr.add, ↓reduceIte] at hx174_0); have qi174 : (3 < t166.length) = True := eq_true (by omega); (try rw [show ((3 : Int)).toNat = 3 from rfl] at hx174_0); replace p174 := eq_true p174; replace q174 := eq_true q174))
                        go_meet
                        case rel => exact ⟨_, (((rd t166 3) != 236)), (by first | rfl | (simp; done) | (simp [*]; done)), H', ⟨by first | omega | exact Nat.le_refl _⟩, ⟨by (with_reducible repeat (first | apply Kd.R_alloc | apply Kd.R_drewN | apply Kd.R_drew)); exact HO168.out⟩, ⟨by (with_reducible repeat (first | refine blk_drewN ?_ _ | refine blk_drew ?_ | refine blk_alloc ?_ _)); exact BK165.out⟩, ⟨by repeat (first | (with_reducible first | exact HB.out | apply below_alloc | apply pw_below_drewN | apply below_drew1 | refine below_set ?_ GE165.out) | exact HB.out)⟩⟩
                      · rw [if_neg c16] at H
                        exact absurd H (by simp)
                    · rw [if_neg c15] at H
                      have c15b0 : ((rd t166 2) == 6) = false := beq_eq_false_iff_ne.mpr c15
                      have c15b1 : ((rd t166 2) != 6) = true := bne_iff_ne.mpr c15
                      have H' := Aside0.mk H
                      clear H
                      obtain ⟨Ao20, co20, eo20⟩ := Kd.R_slice HO168.out
                      subst eo20
                      have hcz21_0 : w5.cell? ⟨gb165, 0, none⟩ = some (.int .i64 0) := (blk_cell BK165.out 0).trans rfl
                      have hcz21_1 : w5.cell? ⟨gb165, 1, none⟩ = some (.int .i64 4) := (blk_cell BK165.out 1).trans rfl
                      have hcz21_2 : w5.cell? ⟨gb165, 2, none⟩ = some (.int .i64 3) := (blk_cell BK165.out 2).trans rfl
                      have hcz21_3 : w5.cell? ⟨gb165, 3, none⟩ = some (.int .i64 0) := (blk_cell BK165.out 3).trans rfl
                      have hcz21_4 : w5.cell? ⟨gb165, 4, none⟩ = some (.int .i64 6) := (blk_cell BK165.out 4).trans rfl
                      have hcz21_5 : w5.cell? ⟨gb165, 5, none⟩ = some (.int .i64 (-20)) := (blk_cell BK165.out 5).trans rfl
                      have hcz21_6 : w5.cell? ⟨gb165, 6, none⟩ = some (.int .u32 0) := (blk_cell BK165.out 6).trans rfl
                      have hcz21_7 : w5.cell? ⟨gb165, 7, none⟩ = some (.int .u32 0) := (blk_cell BK165.out 7).trans rfl
                      have hcz21_8 : w5.cell? ⟨gb165, 8, none⟩ = some (.int .u32 0) := (blk_cell BK165.out 8).trans rfl
                      have hcz21_9 : w5.cell? ⟨gb165, 9, none⟩ = some (.int .u64 0) := (blk_cell BK165.out 9).trans rfl
                      have hcz21_10 : w5.cell? ⟨gb165, 10, none⟩ = some (.int .u64 0) := (blk_cell BK165.out 10).trans rfl
                      have hcz21_11 : w5.cell? ⟨gb165, 11, none⟩ = some (.int .u64 0) := (blk_cell BK165.out 11).trans rfl
                      have hcz21_12 : w5.cell? ⟨gb165, 12, none⟩ = some (.int .u64 72623859790382856) := (blk_cell BK165.out 12).trans rfl
                      have hfz21_0 := blk_frozen BK165.out 0
                      have hfz21_1 := blk_frozen BK165.out 1
                      have hfz21_2 := blk_frozen BK165.out 2
                      have hfz21_3 := blk_frozen BK165.out 3
                      have hfz21_4 := blk_frozen BK165.out 4
                      have hfz21_5 := blk_frozen BK165.out 5
                      have hfz21_6 := blk_frozen BK165.out 6
                      have hfz21_7 := blk_frozen BK165.out 7
                      have hfz21_8 := blk_frozen BK165.out 8
                      have hfz21_9 := blk_frozen BK165.out 9
                      have hfz21_10 := blk_frozen BK165.out 10
                      have hfz21_11 := blk_frozen BK165.out 11
                      have hfz21_12 := blk_frozen BK165.out 12
                      go_wp2_with (first | (go_at_call 10; (with_reducible refine (ntpmsg_Check.calls 0 4 3 0 6 (-20) 0 0 0 0 0 0 72623859790382856 t170 _ A8.out).mono ?_); rintro e w22 ⟨rfl, hb⟩; have n0_ := Aside0.mk (Kd.R_below (by (with_reducible repeat (first | apply Kd.R_alloc | apply Kd.R_drewN | apply Kd.R_drew)); exact HO168.out) hb); have n1_ := Aside0.mk (blk_below (g := gb165) (o := .cells #[.int .i64 0, .int .i64 4, .int .i64 3, .int .i64 0, .int .i64 6, .int .i64 (-20), .int .u32 0, .int .u32 0, .int .u32 0, .int .u64 0, .int .u64 0, .int .u64 0, .int .u64 72623859790382856] 25 (0, 0)) (by (with_reducible repeat (first | refine blk_drewN ?_ _ | refine blk_drew ?_ | refine blk_alloc ?_ _)); exact BK165.out) hb); have n2_ := Aside0.mk (below_step (by repeat (first | (with_reducible first | exact HB.out | apply below_alloc | apply pw_below_drewN | apply below_drew1 | refine below_set ?_ GE165.out) | exact HB.out)) hb); clear HO168; clear BK165; clear HB; have HO168 := n0_; have BK165 := n1_; have HB := n2_; clear n0_ n1_ n2_; (try clear hb); (try clear hb2); (try clear hk); (try clear hi); have p171 : 0 ≤ (0 : Int) := (by omega); have q171 : 0 < (t166.length : Int) := of_decide_eq_true (by first | (with_reducible assumption) | assumption); obtain ⟨ad171, e171, hx171_0⟩ := Kd.at_int (Kd.R_reads' HO168.out).2.2 0 p171 q171; cases e171; have qi171 : (0 < t166.length) = True := eq_true (by omega); (try rw [show ((0 : Int)).toNat = 0 from rfl] at hx171_0); (try rw [Addr.add_zero'] at hx171_0); replace p171 := eq_true p171; replace q171 := eq_true q171; have p172 : 0 ≤ (1 : Int) := (by omega); have q172 : 1 < (t166.length : Int) := of_decide_eq_true (by first | (with_reducible assumption) | assumption); obtain ⟨ad172, e172, hx172_0⟩ := Kd.at_int (Kd.R_reads' HO168.out).2.2 1 p172 q172; obtain rfl : ad171 = ad172 := (by injection e172); (try simp only [show (1 : Int).toNat = 1 from rfl, Nat.reduceMul, Nat.reduceEqDiff, Go.Addr.add, ↓reduceIte] at hx172_0); have qi172 : (1 < t166.length) = True := eq_true (by omega); (try rw [show ((1 : Int)).toNat = 1 from rfl] at hx172_0); replace p172 := eq_true p172; replace q172 := eq_true q172; have p173 : 0 ≤ (2 : Int) := (by omega); have q173 : 2 < (t166.length : Int) := of_decide_eq_true (by first | (with_reducible assumption) | assumption); obtain ⟨ad173, e173, hx173_0⟩ := Kd.at_int (Kd.R_reads' HO168.out).2.2 2 p173 q173; obtain rfl : ad171 = ad173 := (by injection e173); (try simp only [show (2 : Int).toNat = 2 from rfl, Nat.reduceMul, Nat.reduceEqDiff, Go.Addr.add, ↓reduceIte] at hx173_0); have qi173 : (2 < t166.length) = True := eq_true (by omega); (try rw [show ((2 : Int)).toNat = 2 from rfl] at hx173_0); replace p173 := eq_true p173; replace q173 := eq_true q173))
                      go_meet
                      case rel => exact ⟨_, (true), (by first | rfl | (simp; done) | (simp [*]; done)), H', ⟨by first | omega | exact Nat.le_refl _⟩, ⟨by (with_reducible repeat (first | apply Kd.R_alloc | apply Kd.R_drewN | apply Kd.R_drew)); exact HO168.out⟩, ⟨by (with_reducible repeat (first | refine blk_drewN ?_ _ | refine blk_drew ?_ | refine blk_alloc ?_ _)); exact BK165.out⟩, ⟨by repeat (first | (with_reducible first | exact HB.out | apply below_alloc | apply pw_below_drewN | apply below_drew1 | refine below_set ?_ GE165.out) | exact HB.out)⟩⟩
                  · rw [if_neg c14] at H
                    exact absurd H (by simp)
                · rw [if_neg c13] at H
                  have c13b0 : ((rd t166 1) == 0) = false := beq_eq_false_iff_ne.mpr c13
                  have c13b1 : ((rd t166 1) != 0) = true := bne_iff_ne.mpr c13
                  have H' := Aside0.mk H
                  clear H
                  obtain ⟨Ao23, co23, eo23⟩ := Kd.R_slice HO168.out
                  subst eo23
                  have hcz24_0 : w5.cell? ⟨gb165, 0, none⟩ = some (.int .i64 0) := (blk_cell BK165.out 0).trans rfl
                  have hcz24_1 : w5.cell? ⟨gb165, 1, none⟩ = some (.int .i64 4) := (blk_cell BK165.out 1).trans rfl
                  have hcz24_2 : w5.cell? ⟨gb165, 2, none⟩ = some (.int .i64 3) := (blk_cell BK165.out 2).trans rfl
                  have hcz24_3 : w5.cell? ⟨gb165, 3, none⟩ = some (.int .i64 0) := (blk_cell BK165.out 3).trans rfl
                  have hcz24_4 : w5.cell? ⟨gb165, 4, none⟩ = some (.int .i64 6) := (blk_cell BK165.out 4).trans rfl
                  have hcz24_5 : w5.cell? ⟨gb165, 5, none⟩ = some (.int .i64 (-20)) := (blk_cell BK165.out 5).trans rfl
                  have hcz24_6 : w5.cell? ⟨gb165, 6, none⟩ = some (.int .u32 0) := (blk_cell BK165.out 6).trans rfl
                  have hcz24_7 : w5.cell? ⟨gb165, 7, none⟩ = some (.int .u32 0) := (blk_cell BK165.out 7).trans rfl
                  have hcz24_8 : w5.cell? ⟨gb165, 8, none⟩ = some (.int .u32 0) := (blk_cell BK165.out 8).trans rfl
                  have hcz24_9 : w5.cell? ⟨gb165, 9, none⟩ = some (.int .u64 0) := (blk_cell BK165.out 9).trans rfl
                  have hcz24_10 : w5.cell? ⟨gb165, 10, none⟩ = some (.int .u64 0) := (blk_cell BK165.out 10).trans rfl
                  have hcz24_11 : w5.cell? ⟨gb165, 11, none⟩ = some (.int .u64 0) := (blk_cell BK165.out 11).trans rfl
                  have hcz24_12 : w5.cell? ⟨gb165, 12, none⟩ = some (.int .u64 72623859790382856) := (blk_cell BK165.out 12).trans rfl
                  have hfz24_0 := blk_frozen BK165.out 0
                  have hfz24_1 := blk_frozen BK165.out 1
                  have hfz24_2 := blk_frozen BK165.out 2
                  have hfz24_3 := blk_frozen BK165.out 3
                  have hfz24_4 := blk_frozen BK165.out 4
                  have hfz24_5 := blk_frozen BK165.out 5
                  have hfz24_6 := blk_frozen BK165.out 6
                  have hfz24_7 := blk_frozen BK165.out 7
                  have hfz24_8 := blk_frozen BK165.out 8
                  have hfz24_9 := blk_frozen BK165.out 9
                  have hfz24_10 := blk_frozen BK165.out 10
                  have hfz24_11 := blk_frozen BK165.out 11
                  have hfz24_12 := blk_frozen BK165.out 12
                  go_wp2_with (first | (go_at_call 10; (with_reducible refine (ntpmsg_Check.calls 0 4 3 0 6 (-20) 0 0 0 0 0 0 72623859790382856 t170 _ A8.out).mono ?_); rintro e w25 ⟨rfl, hb⟩; have n0_ := Aside0.mk (Kd.R_below (by (with_reducible repeat (first | apply Kd.R_alloc | apply Kd.R_drewN | apply Kd.R_drew)); exact HO168.out) hb); have n1_ := Aside0.mk (blk_below (g := gb165) (o := .cells #[.int .i64 0, .int .i64 4, .int .i64 3, .int .i64 0, .int .i64 6, .int .i64 (-20), .int .u32 0, .int .u32 0, .int .u32 0, .int .u64 0, .int .u64 0, .int .u64 0, .int .u64 72623859790382856] 25 (0, 0)) (by (with_reducible repeat (first | refine blk_drewN ?_ _ | refine blk_drew ?_ | refine blk_alloc ?_ _)); exact BK165.out) hb); have n2_ := Aside0.mk (below_step (by repeat (first | (with_reducible first | exact HB.out | apply below_alloc | apply pw_below_drewN | apply below_drew1 | refine below_set ?_ GE165.out) | exact HB.out)) hb); clear HO168; clear BK165; clear HB; have HO168 := n0_; have BK165 := n1_; have HB := n2_; clear n0_ n1_ n2_; (try clear hb); (try clear hb2); (try clear hk); (try clear hi); have p171 : 0 ≤ (0 : Int) := (by omega); have q171 : 0 < (t166.length : Int) := of_decide_eq_true (by first | (with_reducible assumption) | assumption); obtain ⟨ad171, e171, hx171_0⟩ := Kd.at_int (Kd.R_reads' HO168.out).2.2 0 p171 q171; cases e171; have qi171 : (0 < t166.length) = True := eq_true (by omega); (try rw [show ((0 : Int)).toNat = 0 from rfl] at hx171_0); (try rw [Addr.add_zero'] at hx171_0); replace p171 := eq_true p171; replace q171 := eq_true q171; have p172 : 0 ≤ (1 : Int) := (by omega); have q172 : 1 < (t166.length : Int) := of_decide_eq_true (by first | (with_reducible assumption) | assumption); obtain ⟨ad172, e172, hx172_0⟩ := Kd.at_int (Kd.R_reads' HO168.out).2.2 1 p172 q172; obtain rfl : ad171 = ad172 := (by injection e172); (try simp only [show (1 : Int).toNat = 1 from rfl, Nat.reduceMul, Nat.reduceEqDiff, Go.Addr.add, ↓reduceIte] at hx172_0); have qi172 : (1 < t166.length) = True := eq_true (by omega); (try rw [show ((1 : Int)).toNat = 1 from rfl] at hx172_0); replace p172 := eq_true p172; replace q172 := eq_true q172))
                  go_meet
                  case rel => exact ⟨_, (true), (by first | rfl | (simp; done) | (simp [*]; done)), H', ⟨by first | omega | exact Nat.le_refl _⟩, ⟨by (with_reducible repeat (first | apply Kd.R_alloc | apply Kd.R_drewN | apply Kd.R_drew)); exact HO168.out⟩, ⟨by (with_reducible repeat (first | refine blk_drewN ?_ _ | refine blk_drew ?_ | refine blk_alloc ?_ _)); exact BK165.out⟩, ⟨by repeat (first | (with_reducible first | exact HB.out | apply below_alloc | apply pw_below_drewN | apply below_drew1 | refine below_set ?_ GE165.out) | exact HB.out)⟩⟩
              · rw [if_neg c12] at H
                exact absurd H (by simp)
            · rw [if_neg c11] at H
              have c11b0 : ((rd t166 0) == 35) = false := beq_eq_false_iff_ne.mpr c11
              have c11b1 : ((rd t166 0) != 35) = true := bne_iff_ne.mpr c11
              have H' := Aside0.mk H
              clear H
              obtain ⟨Ao26, co26, eo26⟩ := Kd.R_slice HO168.out
              subst eo26
              have hcz27_0 : w5.cell? ⟨gb165, 0, none⟩ = some (.int .i64 0) := (blk_cell BK165.out 0).trans rfl
              have hcz27_1 : w5.cell? ⟨gb165, 1, none⟩ = some (.int .i64 4) := (blk_cell BK165.out 1).trans rfl
              have hcz27_2 : w5.cell? ⟨gb165, 2, none⟩ = some (.int .i64 3) := (blk_cell BK165.out 2).trans rfl
              have hcz27_3 : w5.cell? ⟨gb165, 3, none⟩ = some (.int .i64 0) := (blk_cell BK165.out 3).trans rfl
              have hcz27_4 : w5.cell? ⟨gb165, 4, none⟩ = some (.int .i64 6) := (blk_cell BK165.out 4).trans rfl
              have hcz27_5 : w5.cell? ⟨gb165, 5, none⟩ = some (.int .i64 (-20)) := (blk_cell BK165.out 5).trans rfl
              have hcz27_6 : w5.cell? ⟨gb165, 6, none⟩ = some (.int .u32 0) := (blk_cell BK165.out 6).trans rfl
              have hcz27_7 : w5.cell? ⟨gb165, 7, none⟩ = some (.int .u32 0) := (blk_cell BK165.out 7).trans rfl
              have hcz27_8 : w5.cell? ⟨gb165, 8, none⟩ = some (.int .u32 0) := (blk_cell BK165.out 8).trans rfl
              have hcz27_9 : w5.cell? ⟨gb165, 9, none⟩ = some (.int .u64 0) := (blk_cell BK165.out 9).trans rfl
              have hcz27_10 : w5.cell? ⟨gb165, 10, none⟩ = some (.int .u64 0) := (blk_cell BK165.out 10).trans rfl
              have hcz27_11 : w5.cell? ⟨gb165, 11, none⟩ = some (.int .u64 0) := (blk_cell BK165.out 11).trans rfl
              have hcz27_12 : w5.cell? ⟨gb165, 12, none⟩ = some (.int .u64 72623859790382856) := (blk_cell BK165.out 12).trans rfl
              have hfz27_0 := blk_frozen BK165.out 0
              have hfz27_1 := blk_frozen BK165.out 1
              have hfz27_2 := blk_frozen BK165.out 2
              have hfz27_3 := blk_frozen BK165.out 3
              have hfz27_4 := blk_frozen BK165.out 4
              have hfz27_5 := blk_frozen BK165.out 5
              have hfz27_6 := blk_frozen BK165.out 6
              have hfz27_7 := blk_frozen BK165.out 7
              have hfz27_8 := blk_frozen BK165.out 8
              have hfz27_9 := blk_frozen BK165.out 9
              have hfz27_10 := blk_frozen BK165.out 10
              have hfz27_11 := blk_frozen BK165.out 11
              have hfz27_12 := blk_frozen BK165.out 12
              go_wp2_with (first | (go_at_call 10; (with_reducible refine (ntpmsg_Check.calls 0 4 3 0 6 (-20) 0 0 0 0 0 0 72623859790382856 t170 _ A8.out).mono ?_); rintro e w28 ⟨rfl, hb⟩; have n0_ := Aside0.mk (Kd.R_below (by (with_reducible repeat (first | apply Kd.R_alloc | apply Kd.R_drewN | apply Kd.R_drew)); exact HO168.out) hb); have n1_ := Aside0.mk (blk_below (g := gb165) (o := .cells #[.int .i64 0, .int .i64 4, .int .i64 3, .int .i64 0, .int .i64 6, .int .i64 (-20), .int .u32 0, .int .u32 0, .int .u32 0, .int .u64 0, .int .u64 0, .int .u64 0, .int .u64 72623859790382856] 25 (0, 0)) (by (with_reducible repeat (first | refine blk_drewN ?_ _ | refine blk_drew ?_ | refine blk_alloc ?_ _)); exact BK165.out) hb); have n2_ := Aside0.mk (below_step (by repeat (first | (with_reducible first | exact HB.out | apply below_alloc | apply pw_below_drewN | apply below_drew1 | refine below_set ?_ GE165.out) | exact HB.out)) hb); clear HO168; clear BK165; clear HB; have HO168 := n0_; have BK165 := n1_; have HB := n2_; clear n0_ n1_ n2_; (try clear hb); (try clear hb2); (try clear hk); (try clear hi); have p171 : 0 ≤ (0 : Int) := (by omega); have q171 : 0 < (t166.length : Int) := of_decide_eq_true (by first | (with_reducible assumption) | assumption); obtain ⟨ad171, e171, hx171_0⟩ := Kd.at_int (Kd.R_reads' HO168.out).2.2 0 p171 q171; cases e171; have qi171 : (0 < t166.length) = True := eq_true (by omega); (try rw [show ((0 : Int)).toNat = 0 from rfl] at hx171_0); (try rw [Addr.add_zero'] at hx171_0); replace p171 := eq_true p171; replace q171 := eq_true q171))
              go_meet
              case rel => exact ⟨_, (true), (by first | rfl | (simp; done) | (simp [*]; done)), H', ⟨by first | omega | exact Nat.le_refl _⟩, ⟨by (with_reducible repeat (first | apply Kd.R_alloc | apply Kd.R_drewN | apply Kd.R_drew)); exact HO168.out⟩, ⟨by (with_reducible repeat (first | refine blk_drewN ?_ _ | refine blk_drew ?_ | refine blk_alloc ?_ _)); exact BK165.out⟩, ⟨by repeat (first | (with_reducible first | exact HB.out | apply below_alloc | apply pw_below_drewN | apply below_drew1 | refine below_set ?_ GE165.out) | exact HB.out)⟩⟩
          · rw [if_neg c10] at H
            exact absurd H (by simp)
        · rw [if_neg c9] at H
          have c9b0 : (t170 == 0) = false := beq_eq_false_iff_ne.mpr c9
          have c9b1 : (t170 != 0) = true := bne_iff_ne.mpr c9
          have H' := Aside0.mk H
          clear H
          obtain ⟨Ao29, co29, eo29⟩ := Kd.R_slice HO168.out
          subst eo29
          have hcz30_0 : w5.cell? ⟨gb165, 0, none⟩ = some (.int .i64 0) := (blk_cell BK165.out 0).trans rfl
          have hcz30_1 : w5.cell? ⟨gb165, 1, none⟩ = some (.int .i64 4) := (blk_cell BK165.out 1).trans rfl
          have hcz30_2 : w5.cell? ⟨gb165, 2, none⟩ = some (.int .i64 3) := (blk_cell BK165.out 2).trans rfl
          have hcz30_3 : w5.cell? ⟨gb165, 3, none⟩ = some (.int .i64 0) := (blk_cell BK165.out 3).trans rfl
          have hcz30_4 : w5.cell? ⟨gb165, 4, none⟩ = some (.int .i64 6) := (blk_cell BK165.out 4).trans rfl
          have hcz30_5 : w5.cell? ⟨gb165, 5, none⟩ = some (.int .i64 (-20)) := (blk_cell BK165.out 5).trans rfl
          have hcz30_6 : w5.cell? ⟨gb165, 6, none⟩ = some (.int .u32 0) := (blk_cell BK165.out 6).trans rfl
          have hcz30_7 : w5.cell? ⟨gb165, 7, none⟩ = some (.int .u32 0) := (blk_cell BK165.out 7).trans rfl
          have hcz30_8 : w5.cell? ⟨gb165, 8, none⟩ = some (.int .u32 0) := (blk_cell BK165.out 8).trans rfl
          have hcz30_9 : w5.cell? ⟨gb165, 9, none⟩ = some (.int .u64 0) := (blk_cell BK165.out 9).trans rfl
          have hcz30_10 : w5.cell? ⟨gb165, 10, none⟩ = some (.int .u64 0) := (blk_cell BK165.out 10).trans rfl
          have hcz30_11 : w5.cell? ⟨gb165, 11, none⟩ = some (.int .u64 0) := (blk_cell BK165.out 11).trans rfl
          have hcz30_12 : w5.cell? ⟨gb165, 12, none⟩ = some (.int .u64 72623859790382856) := (blk_cell BK165.out 12).trans rfl
          have hfz30_0 := blk_frozen BK165.out 0
          have hfz30_1 := blk_frozen BK165.out 1
          have hfz30_2 := blk_frozen BK165.out 2
          have hfz30_3 := blk_frozen BK165.out 3
          have hfz30_4 := blk_frozen BK165.out 4
          have hfz30_5 := blk_frozen BK165.out 5
          have hfz30_6 := blk_frozen BK165.out 6
          have hfz30_7 := blk_frozen BK165.out 7
          have hfz30_8 := blk_frozen BK165.out 8
          have hfz30_9 := blk_frozen BK165.out 9
          have hfz30_10 := blk_frozen BK165.out 10
          have hfz30_11 := blk_frozen BK165.out 11
          have hfz30_12 := blk_frozen BK165.out 12
          go_wp2_with (first | (go_at_call 10; (with_reducible refine (ntpmsg_Check.calls 0 4 3 0 6 (-20) 0 0 0 0 0 0 72623859790382856 t170 _ A8.out).mono ?_); rintro e w31 ⟨rfl, hb⟩; have n0_ := Aside0.mk (Kd.R_below (by (with_reducible repeat (first | apply Kd.R_alloc | apply Kd.R_drewN | apply Kd.R_drew)); exact HO168.out) hb); have n1_ := Aside0.mk (blk_below (g := gb165) (o := .cells #[.int .i64 0, .int .i64 4, .int .i64 3, .int .i64 0, .int .i64 6, .int .i64 (-20), .int .u32 0, .int .u32 0, .int .u32 0, .int .u64 0, .int .u64 0, .int .u64 0, .int .u64 72623859790382856] 25 (0, 0)) (by (with_reducible repeat (first | refine blk_drewN ?_ _ | refine blk_drew ?_ | refine blk_alloc ?_ _)); exact BK165.out) hb); have n2_ := Aside0.mk (below_step (by repeat (first | (with_reducible first | exact HB.out | apply below_alloc | apply pw_below_drewN | apply below_drew1 | refine below_set ?_ GE165.out) | exact HB.out)) hb); clear HO168; clear BK165; clear HB; have HO168 := n0_; have BK165 := n1_; have HB := n2_; clear n0_ n1_ n2_; (try clear hb); (try clear hb2); (try clear hk); (try clear hi)))
          go_meet
          case rel => exact ⟨_, (true), (by first | rfl | (simp; done) | (simp [*]; done)), H', ⟨by first | omega | exact Nat.le_refl _⟩, ⟨by (with_reducible repeat (first | apply Kd.R_alloc | apply Kd.R_drewN | apply Kd.R_drew)); exact HO168.out⟩, ⟨by (with_reducible repeat (first | refine blk_drewN ?_ _ | refine blk_drew ?_ | refine blk_alloc ?_ _)); exact BK165.out⟩, ⟨by repeat (first | (with_reducible first | exact HB.out | apply below_alloc | apply pw_below_drewN | apply below_drew1 | refine below_set ?_ GE165.out) | exact HB.out)⟩⟩
      · rw [if_neg c7] at H
        have c7b0 : (t169 == 0) = false := beq_eq_false_iff_ne.mpr c7
        have c7b1 : (t169 != 0) = true := bne_iff_ne.mpr c7
        have H' := Aside0.mk H
        clear H
        obtain ⟨Ao32, co32, eo32⟩ := Kd.R_slice HO168.out
        subst eo32
        go_wp2
        go_meet
        case rel => exact ⟨_, (true), (by first | rfl | (simp; done) | (simp [*]; done)), H', ⟨by first | omega | exact Nat.le_refl _⟩, ⟨by (with_reducible repeat (first | apply Kd.R_alloc | apply Kd.R_drewN | apply Kd.R_drew)); exact HO168.out⟩, ⟨by (with_reducible repeat (first | refine blk_drewN ?_ _ | refine blk_drew ?_ | refine blk_alloc ?_ _)); exact BK165.out⟩, ⟨by repeat (first | (with_reducible first | exact HB.out | apply below_alloc | apply pw_below_drewN | apply below_drew1 | refine below_set ?_ GE165.out) | exact HB.out)⟩⟩
    · rw [if_neg c6] at H
      have c6b0 : ((t166.length : Int) == 48) = false := beq_eq_false_iff_ne.mpr c6
      have c6b1 : ((t166.length : Int) != 48) = true := bne_iff_ne.mpr c6
      (first | rw [c6b0] | (simp only [i64_w, i32_w]; rw [c6b0]) | skip)
      have H' := Aside0.mk H
      clear H
      obtain ⟨Ao33, co33, eo33⟩ := Kd.R_slice HO168.out
      subst eo33
      go_wp2
      go_meet
      case rel => exact ⟨_, (true), (by first | rfl | (simp; done) | (simp [*]; done)), H', ⟨by first | omega | exact Nat.le_refl _⟩, ⟨by (with_reducible repeat (first | apply Kd.R_alloc | apply Kd.R_drewN | apply Kd.R_drew)); exact HO168.out⟩, ⟨by (with_reducible repeat (first | refine blk_drewN ?_ _ | refine blk_drew ?_ | refine blk_alloc ?_ _)); exact BK165.out⟩, ⟨by repeat (first | (with_reducible first | exact HB.out | apply below_alloc | apply pw_below_drewN | apply below_drew1 | refine below_set ?_ GE165.out) | exact HB.out)⟩⟩
  case rest =>
    clear HC2
    try clear c1
    try clear p1
    try clear q1
    try clear hx1
    try clear qi1
    try clear p2
    try clear c6
    try clear c6b0
    try clear c6b1
    try clear c7
    try clear c7b0
    try clear c7b1
    try clear c8
    try clear c9
    try clear c9b0
    try clear c9b1
    try clear c10
    try clear c10b0
    try clear c10b1
    try clear c11
    try clear c11b0
    try clear c11b1
    try clear c12
    try clear c12b0
    try clear c12b1
    try clear c13
    try clear c13b0
    try clear c13b1
    try clear c14
    try clear c14b0
    try clear c14b1
    try clear c15
    try clear c15b0
    try clear c15b1
    try clear c16
    try clear c16b0
    try clear c16b1
    try clear p17
    try clear q17
    try clear hx17
    try clear qi17
    try clear hcz18_0
    try clear hcz18_1
    try clear hcz18_10
    try clear hcz18_11
    try clear hcz18_12
    try clear hcz18_2
    try clear hcz18_3
    try clear hcz18_4
    try clear hcz18_5
    try clear hcz18_6
    try clear hcz18_7
    try clear hcz18_8
    try clear hcz18_9
    try clear hcz21_0
    try clear hcz21_1
    try clear hcz21_10
    try clear hcz21_11
    try clear hcz21_12
    try clear hcz21_2
    try clear hcz21_3
    try clear hcz21_4
    try clear hcz21_5
    try clear hcz21_6
    try clear hcz21_7
    try clear hcz21_8
    try clear hcz21_9
    try clear hcz24_0
    try clear hcz24_1
    try clear hcz24_10
    try clear hcz24_11
    try clear hcz24_12
    try clear hcz24_2
    try clear hcz24_3
    try clear hcz24_4
    try clear hcz24_5
    try clear hcz24_6
    try clear hcz24_7
    try clear hcz24_8
    try clear hcz24_9
    try clear hcz27_0
    try clear hcz27_1
    try clear hcz27_10
    try clear hcz27_11
    try clear hcz27_12
    try clear hcz27_2
    try clear hcz27_3
    try clear hcz27_4
    try clear hcz27_5
    try clear hcz27_6
    try clear hcz27_7
    try clear hcz27_8
    try clear hcz27_9
    try clear hcz30_0
    try clear hcz30_1
    try clear hcz30_10
    try clear hcz30_11
    try clear hcz30_12
    try clear hcz30_2
    try clear hcz30_3
    try clear hcz30_4
    try clear hcz30_5
    try clear hcz30_6
    try clear hcz30_7
    try clear hcz30_8
    try clear hcz30_9
    try clear hcz4_0
    try clear hcz4_1
    try clear hcz4_10
    try clear hcz4_11
    try clear hcz4_12
    try clear hcz4_2
    try clear hcz4_3
    try clear hcz4_4
    try clear hcz4_5
    try clear hcz4_6
    try clear hcz4_7
    try clear hcz4_8
    try clear hcz4_9
    try clear hfz18_0
    try clear hfz18_1
    try clear hfz18_10
    try clear hfz18_11
    try clear hfz18_12
    try clear hfz18_2
    try clear hfz18_3
    try clear hfz18_4
    try clear hfz18_5
    try clear hfz18_6
    try clear hfz18_7
    try clear hfz18_8
    try clear hfz18_9
    try clear hfz21_0
    try clear hfz21_1
    try clear hfz21_10
    try clear hfz21_11
    try clear hfz21_12
    try clear hfz21_2
    try clear hfz21_3
    try clear hfz21_4
    try clear hfz21_5
    try clear hfz21_6
    try clear hfz21_7
    try clear hfz21_8
    try clear hfz21_9
    try clear hfz24_0
    try clear hfz24_1
    try clear hfz24_10
    try clear hfz24_11
    try clear hfz24_12
    try clear hfz24_2
    try clear hfz24_3
    try clear hfz24_4
    try clear hfz24_5
    try clear hfz24_6
    try clear hfz24_7
    try clear hfz24_8
    try clear hfz24_9
    try clear hfz27_0
    try clear hfz27_1
    try clear hfz27_10
    try clear hfz27_11
    try clear hfz27_12
    try clear hfz27_2
    try clear hfz27_3
    try clear hfz27_4
    try clear hfz27_5
    try clear hfz27_6
    try clear hfz27_7
    try clear hfz27_8
    try clear hfz27_9
    try clear hfz30_0
    try clear hfz30_1
    try clear hfz30_10
    try clear hfz30_11
    try clear hfz30_12
    try clear hfz30_2
    try clear hfz30_3
    try clear hfz30_4
    try clear hfz30_5
    try clear hfz30_6
    try clear hfz30_7
    try clear hfz30_8
    try clear hfz30_9
    try clear hfz4_0
    try clear hfz4_1
    try clear hfz4_10
    try clear hfz4_11
    try clear hfz4_12
    try clear hfz4_2
    try clear hfz4_3
    try clear hfz4_4
    try clear hfz4_5
    try clear hfz4_6
    try clear hfz4_7
    try clear hfz4_8
    try clear hfz4_9
    try clear hx171_0
    try clear hx172_0
    try clear hx173_0
    try clear hx174_0
    try clear p171
    try clear p172
    try clear p173
    try clear p174
    try clear q171
    try clear q172
    try clear q173
    try clear q174
    obtain ⟨kq, x56_1, rfl, HA, HJ1, HO_2, BK165, HB⟩ := hcut
    cases kq with
    | zero => exact absurd HA.out (by simp [timesynclaw19_awake.j0])
    | succ kj1 =>
      have H := HA.out
      clear HA
      simp only [timesynclaw19_awake.j0] at H
      by_cases c34 : x56_1 = true
      · subst c34
        have H1 : (none) = some r := by rw [if_pos rfl] at H; exact H
        clear H
        have H := H1
        clear H1
        exact absurd H (by simp)
      · replace c34 := Bool.eq_false_iff.mpr c34
        subst c34
        have H1 : (timesynclaw19_awake.l0 kj1 t166 4 0 4 3 0 6 (-20) 0 0 0 0 0 0 72623859790382856) = some r := by rw [if_neg (show ¬ (false = true) by decide)] at H; exact H
        clear H
        have H := H1
        clear H1
        have H' := Aside0.mk H
        clear H
        go_wp2
        go_loopg [4] kj1 (fun kq v4 w' => ∃ (x4_2 : Int), v4 = .int .i64 x4_2 ∧ Aside0 (timesynclaw19_awake.l0 kq t166 x4_2 0 4 3 0 6 (-20) 0 0 0 0 0 0 72623859790382856 = some r) ∧ Aside0 (kq ≤ kj1) ∧ Aside0 (Kd.R (Kd.int .u8) 5 w' w.heap.size (fun _ => True) v167 t166) ∧ Aside0 (w'.heap[gb165]? = some (.cells #[.int .i64 0, .int .i64 4, .int .i64 3, .int .i64 0, .int .i64 6, .int .i64 (-20), .int .u32 0, .int .u32 0, .int .u32 0, .int .u64 0, .int .u64 0, .int .u64 0, .int .u64 72623859790382856] 25 (0, 0))) ∧ Aside0 (Below w.heap.size w w'))
        case atStart => exact ⟨(4), (by first | rfl | (simp; done) | (simp [*]; done)), H', ⟨Nat.le_refl _⟩, ⟨by (with_reducible repeat (first | apply Kd.R_alloc | apply Kd.R_drewN | apply Kd.R_drew)); exact HO_2.out⟩, ⟨by (with_reducible repeat (first | refine blk_drewN ?_ _ | refine blk_drew ?_ | refine blk_alloc ?_ _)); exact BK165.out⟩, ⟨by repeat (first | (with_reducible first | exact HB.out | apply below_alloc | apply pw_below_drewN | apply below_drew1 | refine below_set ?_ GE165.out) | exact HB.out)⟩⟩
        case round =>
          clear H'
          try clear c1
          try clear p1
          try clear q1
          try clear hx1
          try clear qi1
          try clear p2
          try clear c3
          try clear c6
          try clear c6b0
          try clear c6b1
          try clear c7
          try clear c7b0
          try clear c7b1
          try clear c8
          try clear c9
          try clear c9b0
          try clear c9b1
          try clear c10
          try clear c10b0
          try clear c10b1
          try clear c11
          try clear c11b0
          try clear c11b1
          try clear c12
          try clear c12b0
          try clear c12b1
          try clear c13
          try clear c13b0
          try clear c13b1
          try clear c14
          try clear c14b0
          try clear c14b1
          try clear c15
          try clear c15b0
          try clear c15b1
          try clear c16
          try clear c16b0
          try clear c16b1
          try clear p17
          try clear q17
          try clear hx17
          try clear qi17
          try clear c34
          try clear hcz18_0
          try clear hcz18_1
          try clear hcz18_10
          try clear hcz18_11
          try clear hcz18_12
          try clear hcz18_2
          try clear hcz18_3
          try clear hcz18_4
          try clear hcz18_5
          try clear hcz18_6
          try clear hcz18_7
          try clear hcz18_8
          try clear hcz18_9
          try clear hcz21_0
          try clear hcz21_1
          try clear hcz21_10
          try clear hcz21_11
          try clear hcz21_12
          try clear hcz21_2
          try clear hcz21_3
          try clear hcz21_4
          try clear hcz21_5
          try clear hcz21_6
          try clear hcz21_7
          try clear hcz21_8
          try clear hcz21_9
          try clear hcz24_0
          try clear hcz24_1
          try clear hcz24_10
          try clear hcz24_11
          try clear hcz24_12
          try clear hcz24_2
          try clear hcz24_3
          try clear hcz24_4
          try clear hcz24_5
          try clear hcz24_6
          try clear hcz24_7
          try clear hcz24_8
          try clear hcz24_9
          try clear hcz27_0
          try clear hcz27_1
          try clear hcz27_10
          try clear hcz27_11
          try clear hcz27_12
          try clear hcz27_2
          try clear hcz27_3
          try clear hcz27_4
          try clear hcz27_5
          try clear hcz27_6
          try clear hcz27_7
          try clear hcz27_8
          try clear hcz27_9
          try clear hcz30_0
          try clear hcz30_1
          try clear hcz30_10
          try clear hcz30_11
          try clear hcz30_12
          try clear hcz30_2
          try clear hcz30_3
          try clear hcz30_4
          try clear hcz30_5
          try clear hcz30_6
          try clear hcz30_7
          try clear hcz30_8
          try clear hcz30_9
          try clear hcz4_0
          try clear hcz4_1
          try clear hcz4_10
          try clear hcz4_11
          try clear hcz4_12
          try clear hcz4_2
          try clear hcz4_3
          try clear hcz4_4
          try clear hcz4_5
          try clear hcz4_6
          try clear hcz4_7
          try clear hcz4_8
          try clear hcz4_9
          try clear hfz18_0
          try clear hfz18_1
          try clear hfz18_10
          try clear hfz18_11
          try clear hfz18_12
          try clear hfz18_2
          try clear hfz18_3
          try clear hfz18_4
          try clear hfz18_5
          try clear hfz18_6
          try clear hfz18_7
          try clear hfz18_8
          try clear hfz18_9
          try clear hfz21_0
          try clear hfz21_1
          try clear hfz21_10
          try clear hfz21_11
          try clear hfz21_12
          try clear hfz21_2
          try clear hfz21_3
          try clear hfz21_4
          try clear hfz21_5
          try clear hfz21_6
          try clear hfz21_7
          try clear hfz21_8
          try clear hfz21_9
          try clear hfz24_0
          try clear hfz24_1
          try clear hfz24_10
          try clear hfz24_11
          try clear hfz24_12
          try clear hfz24_2
          try clear hfz24_3
          try clear hfz24_4
          try clear hfz24_5
          try clear hfz24_6
          try clear hfz24_7
          try clear hfz24_8
          try clear hfz24_9
          try clear hfz27_0
          try clear hfz27_1
          try clear hfz27_10
          try clear hfz27_11
          try clear hfz27_12
          try clear hfz27_2
          try clear hfz27_3
          try clear hfz27_4
          try clear hfz27_5
          try clear hfz27_6
          try clear hfz27_7
          try clear hfz27_8
          try clear hfz27_9
          try clear hfz30_0
          try clear hfz30_1
          try clear hfz30_10
          try clear hfz30_11
          try clear hfz30_12
          try clear hfz30_2
          try clear hfz30_3
          try clear hfz30_4
          try clear hfz30_5
          try clear hfz30_6
          try clear hfz30_7
          try clear hfz30_8
          try clear hfz30_9
          try clear hfz4_0
          try clear hfz4_1
          try clear hfz4_10
          try clear hfz4_11
          try clear hfz4_12
          try clear hfz4_2
          try clear hfz4_3
          try clear hfz4_4
          try clear hfz4_5
          try clear hfz4_6
          try clear hfz4_7
          try clear hfz4_8
          try clear hfz4_9
          try clear hx171_0
          try clear hx172_0
          try clear hx173_0
          try clear hx174_0
          try clear p1
          try clear p17
          try clear p171
          try clear p172
          try clear p173
          try clear p174
          try clear p2
          try clear q1
          try clear q17
          try clear q171
          try clear q172
          try clear q173
          try clear q174
          obtain ⟨x4_2, rfl, HA, HK2, HO_2, BK165, HB⟩ := hrel
          cases gk with
          | zero => exact absurd HA.out (by simp [timesynclaw19_awake.l0])
          | succ k2 =>
            have H := HA.out
            clear HA
            simp only [timesynclaw19_awake.l0] at H
            by_cases c35 : x4_2 < 48
            · rw [if_pos c35] at H
              have c35b0 : decide (x4_2 < 48) = true := decide_eq_true c35
              clear c35
              by_cases c36 : 0 ≤ x4_2
              · rw [if_pos c36] at H
                have c36b0 : decide (0 ≤ x4_2) = true := decide_eq_true c36
                clear c36
                by_cases c37 : x4_2 < (t166.length : Int)
                · rw [if_pos c37] at H
                  have c37b0 : decide (x4_2 < (t166.length : Int)) = true := decide_eq_true c37
                  clear c37
                  obtain ⟨ji38, hji38⟩ : ∃ j_ : Int, (mx 0 (wrap64 (x4_2 - 39))) = j_ := ⟨_, rfl⟩
                  replace H : (if (rd t166 x4_2) = ((ji38) % 256) then (timesynclaw19_awake.l0 k2 t166 (wrap64 (x4_2 + 1)) 0 4 3 0 6 (-20) 0 0 0 0 0 0 72623859790382856) else (none)) = some r := by first | (rw [hji38] at H; exact H) | (simp only [hji38] at H ⊢; exact H)
                  have hji38_ : (if 0 < (wrap64 (x4_2 - 39)) then (wrap64 (x4_2 - 39)) else 0) = ji38 := hji38
                  by_cases c39 : (rd t166 x4_2) = ((ji38) % 256)
                  · rw [if_pos c39] at H
                    have c39b0 : ((rd t166 x4_2) == ((ji38) % 256)) = true := beq_iff_eq.mpr c39
                    have c39b1 : ((rd t166 x4_2) != ((ji38) % 256)) = false := bne_eq_false_iff_eq.mpr c39
                    clear c39
                    have H' := Aside0.mk H
                    clear H
                    obtain ⟨Ao40, co40, eo40⟩ := Kd.R_slice HO_2.out
                    subst eo40
                    have p175 : 0 ≤ (x4_2 : Int) := of_decide_eq_true (by first | (with_reducible assumption) | assumption)
                    have q175 : x4_2 < (t166.length : Int) := of_decide_eq_true (by first | (with_reducible assumption) | assumption)
                    obtain ⟨ad175, e175, hx175_0⟩ := Kd.at_int (Kd.R_reads' HO_2.out).2.2 x4_2 p175 q175
                    cases e175
                    replace p175 := eq_true p175
                    replace q175 := eq_true q175
                    go_wp2
                    go_roundg k2
                    case measure => have := HJ1.out; have := HK2.out; omega
                    case rel => exact ⟨(wrap64 (x4_2 + 1)), (by first | rfl | (simp; done) | (simp [*]; done)), H', ⟨by have := HJ1.out; have := HK2.out; omega⟩, ⟨by (with_reducible repeat (first | apply Kd.R_alloc | apply Kd.R_drewN | apply Kd.R_drew)); exact HO_2.out⟩, ⟨by (with_reducible repeat (first | refine blk_drewN ?_ _ | refine blk_drew ?_ | refine blk_alloc ?_ _)); exact BK165.out⟩, ⟨by repeat (first | (with_reducible first | exact HB.out | apply below_alloc | apply pw_below_drewN | apply below_drew1 | refine below_set ?_ GE165.out) | exact HB.out)⟩⟩
                  · rw [if_neg c39] at H
                    exact absurd H (by simp)
                · rw [if_neg c37] at H
                  exact absurd H (by simp)
              · rw [if_neg c36] at H
                exact absurd H (by simp)
            · rw [if_neg c35] at H
              have c35b0 : decide (x4_2 < 48) = false := decide_eq_false c35
              clear c35
              obtain ⟨y176, hy176⟩ : ∃ y_ : List Int, y_ = (([] : List Int)) := ⟨_, rfl⟩
              replace H : (if y176.length + t166.length < 140737488355328 then ((some (y176 ++ t166 : List Int)).bind fun y179 => (if y179.length < 140737488355328 then ((ntpmsg_Decode.f (y179 ++ [9])).bind fun bt185 => (if 47 ≤ (t166.length : Int) then ((ntpmsg_Decode.f (t166.take 47)).bind fun bt207 => ((ntpmsg_Code.f k2 (⟨#[82, 65, 84, 69]⟩ : ByteArray)).bind fun bt225 => ((ntpmsg_Kiss.f k2 0 0 0 0 0 0 0 0 1380013125 0 0 0 0).bind fun bt227 => (if (bt185.1 == 0 && (bt185.2.1 == 4 && (bt185.2.2.1 == 3 && (bt185.2.2.2.1 == 0 && (bt185.2.2.2.2.1 == 6 && (bt185.2.2.2.2.2.1 == (-20) && (bt185.2.2.2.2.2.2.1 == 0 && (bt185.2.2.2.2.2.2.2.1 == 0 && (bt185.2.2.2.2.2.2.2.2.1 == 0 && (bt185.2.2.2.2.2.2.2.2.2.1 == 0 && (bt185.2.2.2.2.2.2.2.2.2.2.1 == 0 && (bt185.2.2.2.2.2.2.2.2.2.2.2.1 == 0 && (bt185.2.2.2.2.2.2.2.2.2.2.2.2.1 == 72623859790382856))))))))))))) = true then (if (bt185.2.2.2.2.2.2.2.2.2.2.2.2.2.1.length : Int) = 1 then (if 0 < (bt185.2.2.2.2.2.2.2.2.2.2.2.2.2.1.length : Int) then (if (rd bt185.2.2.2.2.2.2.2.2.2.2.2.2.2.1 0) = 9 then (if bt185.2.2.2.2.2.2.2.2.2.2.2.2.2.2 = 0 then (if bt207.2.2.2.2.2.2.2.2.2.2.2.2.2.2 = 5 then (if bt225.1 = 1380013125 then (if bt225.2 = 0 then (if bt227.1.toList = ([82, 65, 84, 69] : List UInt8) then (if bt227.2 = true then ((ntpmsg_Synced.f 0 4 3 0 6 (-20) 0 0 0 0 0 0 72623859790382856).bind fun t230 => (if t230 = true then (none) else ((ntpmsg_Synced.f 0 0 0 1 0 0 0 0 0 0 0 0 0).bind fun t231 => (if t231 = true then (some true) else (none))))) else (none)) else (none)) else (none)) else (none)) else (none)) else (none)) else (none)) else (none)) else (none)) else (none))))) else (none))) else (none))) else (none)) = some r := by first | (rw [hy176]; with_reducible exact H) | (have H2_ := (Option.bind_some _ _).symm.trans H; rw [hy176]; with_reducible exact H2_) | (have H2_ := (Option.bind_some _ _).symm.trans H; with_reducible exact H2_) | with_reducible exact H | (rw [hy176]; exact H) | exact H
              have Ny176 := Aside0.mk hy176
              clear hy176
              by_cases c41 : y176.length + t166.length < 140737488355328
              · rw [if_pos c41] at H
                have LMc41 := Aside0.mk c41
                clear c41
                obtain ⟨y179, hy179⟩ : ∃ y_ : List Int, y_ = (y176 ++ t166) := ⟨_, rfl⟩
                replace H : (if y179.length < 140737488355328 then ((ntpmsg_Decode.f (y179 ++ [9])).bind fun bt185 => (if 47 ≤ (t166.length : Int) then ((ntpmsg_Decode.f (t166.take 47)).bind fun bt207 => ((ntpmsg_Code.f k2 (⟨#[82, 65, 84, 69]⟩ : ByteArray)).bind fun bt225 => ((ntpmsg_Kiss.f k2 0 0 0 0 0 0 0 0 1380013125 0 0 0 0).bind fun bt227 => (if (bt185.1 == 0 && (bt185.2.1 == 4 && (bt185.2.2.1 == 3 && (bt185.2.2.2.1 == 0 && (bt185.2.2.2.2.1 == 6 && (bt185.2.2.2.2.2.1 == (-20) && (bt185.2.2.2.2.2.2.1 == 0 && (bt185.2.2.2.2.2.2.2.1 == 0 && (bt185.2.2.2.2.2.2.2.2.1 == 0 && (bt185.2.2.2.2.2.2.2.2.2.1 == 0 && (bt185.2.2.2.2.2.2.2.2.2.2.1 == 0 && (bt185.2.2.2.2.2.2.2.2.2.2.2.1 == 0 && (bt185.2.2.2.2.2.2.2.2.2.2.2.2.1 == 72623859790382856))))))))))))) = true then (if (bt185.2.2.2.2.2.2.2.2.2.2.2.2.2.1.length : Int) = 1 then (if 0 < (bt185.2.2.2.2.2.2.2.2.2.2.2.2.2.1.length : Int) then (if (rd bt185.2.2.2.2.2.2.2.2.2.2.2.2.2.1 0) = 9 then (if bt185.2.2.2.2.2.2.2.2.2.2.2.2.2.2 = 0 then (if bt207.2.2.2.2.2.2.2.2.2.2.2.2.2.2 = 5 then (if bt225.1 = 1380013125 then (if bt225.2 = 0 then (if bt227.1.toList = ([82, 65, 84, 69] : List UInt8) then (if bt227.2 = true then ((ntpmsg_Synced.f 0 4 3 0 6 (-20) 0 0 0 0 0 0 72623859790382856).bind fun t230 => (if t230 = true then (none) else ((ntpmsg_Synced.f 0 0 0 1 0 0 0 0 0 0 0 0 0).bind fun t231 => (if t231 = true then (some true) else (none))))) else (none)) else (none)) else (none)) else (none)) else (none)) else (none)) else (none)) else (none)) else (none)) else (none))))) else (none))) else (none)) = some r := by first | (rw [hy179]; with_reducible exact H) | (have H2_ := (Option.bind_some _ _).symm.trans H; rw [hy179]; with_reducible exact H2_) | (have H2_ := (Option.bind_some _ _).symm.trans H; with_reducible exact H2_) | with_reducible exact H | (rw [hy179]; exact H) | exact H
                have Ny179 := Aside0.mk hy179
                clear hy179
                by_cases c42 : y179.length < 140737488355328
                · rw [if_pos c42] at H
                  have LMc42 := Aside0.mk c42
                  clear c42
                  obtain ⟨y182, hy182⟩ : ∃ y_ : List Int, y_ = (y179 ++ [9]) := ⟨_, rfl⟩
                  replace H : ((ntpmsg_Decode.f y182).bind fun bt185 => (if 47 ≤ (t166.length : Int) then ((ntpmsg_Decode.f (t166.take 47)).bind fun bt207 => ((ntpmsg_Code.f k2 (⟨#[82, 65, 84, 69]⟩ : ByteArray)).bind fun bt225 => ((ntpmsg_Kiss.f k2 0 0 0 0 0 0 0 0 1380013125 0 0 0 0).bind fun bt227 => (if (bt185.1 == 0 && (bt185.2.1 == 4 && (bt185.2.2.1 == 3 && (bt185.2.2.2.1 == 0 && (bt185.2.2.2.2.1 == 6 && (bt185.2.2.2.2.2.1 == (-20) && (bt185.2.2.2.2.2.2.1 == 0 && (bt185.2.2.2.2.2.2.2.1 == 0 && (bt185.2.2.2.2.2.2.2.2.1 == 0 && (bt185.2.2.2.2.2.2.2.2.2.1 == 0 && (bt185.2.2.2.2.2.2.2.2.2.2.1 == 0 && (bt185.2.2.2.2.2.2.2.2.2.2.2.1 == 0 && (bt185.2.2.2.2.2.2.2.2.2.2.2.2.1 == 72623859790382856))))))))))))) = true then (if (bt185.2.2.2.2.2.2.2.2.2.2.2.2.2.1.length : Int) = 1 then (if 0 < (bt185.2.2.2.2.2.2.2.2.2.2.2.2.2.1.length : Int) then (if (rd bt185.2.2.2.2.2.2.2.2.2.2.2.2.2.1 0) = 9 then (if bt185.2.2.2.2.2.2.2.2.2.2.2.2.2.2 = 0 then (if bt207.2.2.2.2.2.2.2.2.2.2.2.2.2.2 = 5 then (if bt225.1 = 1380013125 then (if bt225.2 = 0 then (if bt227.1.toList = ([82, 65, 84, 69] : List UInt8) then (if bt227.2 = true then ((ntpmsg_Synced.f 0 4 3 0 6 (-20) 0 0 0 0 0 0 72623859790382856).bind fun t230 => (if t230 = true then (none) else ((ntpmsg_Synced.f 0 0 0 1 0 0 0 0 0 0 0 0 0).bind fun t231 => (if t231 = true then (some true) else (none))))) else (none)) else (none)) else (none)) else (none)) else (none)) else (none)) else (none)) else (none)) else (none)) else (none))))) else (none))) = some r := by first | (rw [hy182]; with_reducible exact H) | (have H2_ := (Option.bind_some _ _).symm.trans H; rw [hy182]; with_reducible exact H2_) | (have H2_ := (Option.bind_some _ _).symm.trans H; with_reducible exact H2_) | with_reducible exact H | (rw [hy182]; exact H) | exact H
                  have Ny182 := Aside0.mk hy182
                  clear hy182
                  replace H := Option.bind_eq_some_iff.mp H
                  obtain ⟨⟨t185, t186, t187, t188, t189, t190, t191, t192, t193, t194, t195, t196, t197, t198, t201⟩, A430, H⟩ := H
                  replace H : (if 47 ≤ (t166.length : Int) then ((ntpmsg_Decode.f (t166.take 47)).bind fun bt207 => ((ntpmsg_Code.f k2 (⟨#[82, 65, 84, 69]⟩ : ByteArray)).bind fun bt225 => ((ntpmsg_Kiss.f k2 0 0 0 0 0 0 0 0 1380013125 0 0 0 0).bind fun bt227 => (if (t185 == 0 && (t186 == 4 && (t187 == 3 && (t188 == 0 && (t189 == 6 && (t190 == (-20) && (t191 == 0 && (t192 == 0 && (t193 == 0 && (t194 == 0 && (t195 == 0 && (t196 == 0 && (t197 == 72623859790382856))))))))))))) = true then (if (t198.length : Int) = 1 then (if 0 < (t198.length : Int) then (if (rd t198 0) = 9 then (if t201 = 0 then (if bt207.2.2.2.2.2.2.2.2.2.2.2.2.2.2 = 5 then (if bt225.1 = 1380013125 then (if bt225.2 = 0 then (if bt227.1.toList = ([82, 65, 84, 69] : List UInt8) then (if bt227.2 = true then ((ntpmsg_Synced.f 0 4 3 0 6 (-20) 0 0 0 0 0 0 72623859790382856).bind fun t230 => (if t230 = true then (none) else ((ntpmsg_Synced.f 0 0 0 1 0 0 0 0 0 0 0 0 0).bind fun t231 => (if t231 = true then (some true) else (none))))) else (none)) else (none)) else (none)) else (none)) else (none)) else (none)) else (none)) else (none)) else (none)) else (none))))) else (none)) = some r := H
                  have A43 := Aside0.mk A430
                  clear A430
                  by_cases c44 : 47 ≤ (t166.length : Int)
                  · rw [if_pos c44] at H
                    have c44b0 := eq_true c44
                    have c44b1 : decide (47 ≤ (t166.length : Int)) = true := decide_eq_true c44
                    clear c44
                    obtain ⟨y203, hy203⟩ : ∃ y_ : List Int, y_ = (t166.take 47) := ⟨_, rfl⟩
                    replace H : ((ntpmsg_Decode.f y203).bind fun bt207 => ((ntpmsg_Code.f k2 (⟨#[82, 65, 84, 69]⟩ : ByteArray)).bind fun bt225 => ((ntpmsg_Kiss.f k2 0 0 0 0 0 0 0 0 1380013125 0 0 0 0).bind fun bt227 => (if (t185 == 0 && (t186 == 4 && (t187 == 3 && (t188 == 0 && (t189 == 6 && (t190 == (-20) && (t191 == 0 && (t192 == 0 && (t193 == 0 && (t194 == 0 && (t195 == 0 && (t196 == 0 && (t197 == 72623859790382856))))))))))))) = true then (if (t198.length : Int) = 1 then (if 0 < (t198.length : Int) then (if (rd t198 0) = 9 then (if t201 = 0 then (if bt207.2.2.2.2.2.2.2.2.2.2.2.2.2.2 = 5 then (if bt225.1 = 1380013125 then (if bt225.2 = 0 then (if bt227.1.toList = ([82, 65, 84, 69] : List UInt8) then (if bt227.2 = true then ((ntpmsg_Synced.f 0 4 3 0 6 (-20) 0 0 0 0 0 0 72623859790382856).bind fun t230 => (if t230 = true then (none) else ((ntpmsg_Synced.f 0 0 0 1 0 0 0 0 0 0 0 0 0).bind fun t231 => (if t231 = true then (some true) else (none))))) else (none)) else (none)) else (none)) else (none)) else (none)) else (none)) else (none)) else (none)) else (none)) else (none))))) = some r := by first | (rw [hy203]; with_reducible exact H) | (have H2_ := (Option.bind_some _ _).symm.trans H; rw [hy203]; with_reducible exact H2_) | (have H2_ := (Option.bind_some _ _).symm.trans H; with_reducible exact H2_) | with_reducible exact H | (rw [hy203]; exact H) | exact H
                    have Ny203 := Aside0.mk hy203
                    clear hy203
                    replace H := Option.bind_eq_some_iff.mp H
                    obtain ⟨⟨t207, t208, t209, t210, t211, t212, t213, t214, t215, t216, t217, t218, t219, t220, t223⟩, A450, H⟩ := H
                    replace H : ((ntpmsg_Code.f k2 (⟨#[82, 65, 84, 69]⟩ : ByteArray)).bind fun bt225 => ((ntpmsg_Kiss.f k2 0 0 0 0 0 0 0 0 1380013125 0 0 0 0).bind fun bt227 => (if (t185 == 0 && (t186 == 4 && (t187 == 3 && (t188 == 0 && (t189 == 6 && (t190 == (-20) && (t191 == 0 && (t192 == 0 && (t193 == 0 && (t194 == 0 && (t195 == 0 && (t196 == 0 && (t197 == 72623859790382856))))))))))))) = true then (if (t198.length : Int) = 1 then (if 0 < (t198.length : Int) then (if (rd t198 0) = 9 then (if t201 = 0 then (if t223 = 5 then (if bt225.1 = 1380013125 then (if bt225.2 = 0 then (if bt227.1.toList = ([82, 65, 84, 69] : List UInt8) then (if bt227.2 = true then ((ntpmsg_Synced.f 0 4 3 0 6 (-20) 0 0 0 0 0 0 72623859790382856).bind fun t230 => (if t230 = true then (none) else ((ntpmsg_Synced.f 0 0 0 1 0 0 0 0 0 0 0 0 0).bind fun t231 => (if t231 = true then (some true) else (none))))) else (none)) else (none)) else (none)) else (none)) else (none)) else (none)) else (none)) else (none)) else (none)) else (none)))) = some r := H
                    have A45 := Aside0.mk A450
                    clear A450
                    replace H := Option.bind_eq_some_iff.mp H
                    obtain ⟨⟨t225, t226⟩, A460, H⟩ := H
                    replace H : ((ntpmsg_Kiss.f k2 0 0 0 0 0 0 0 0 1380013125 0 0 0 0).bind fun bt227 => (if (t185 == 0 && (t186 == 4 && (t187 == 3 && (t188 == 0 && (t189 == 6 && (t190 == (-20) && (t191 == 0 && (t192 == 0 && (t193 == 0 && (t194 == 0 && (t195 == 0 && (t196 == 0 && (t197 == 72623859790382856))))))))))))) = true then (if (t198.length : Int) = 1 then (if 0 < (t198.length : Int) then (if (rd t198 0) = 9 then (if t201 = 0 then (if t223 = 5 then (if t225 = 1380013125 then (if t226 = 0 then (if bt227.1.toList = ([82, 65, 84, 69] : List UInt8) then (if bt227.2 = true then ((ntpmsg_Synced.f 0 4 3 0 6 (-20) 0 0 0 0 0 0 72623859790382856).bind fun t230 => (if t230 = true then (none) else ((ntpmsg_Synced.f 0 0 0 1 0 0 0 0 0 0 0 0 0).bind fun t231 => (if t231 = true then (some true) else (none))))) else (none)) else (none)) else (none)) else (none)) else (none)) else (none)) else (none)) else (none)) else (none)) else (none))) = some r := H
                    have A46 := Aside0.mk A460
                    clear A460
                    replace H := Option.bind_eq_some_iff.mp H
                    obtain ⟨⟨t227, t228⟩, A470, H⟩ := H
                    replace H : (if (t185 == 0 && (t186 == 4 && (t187 == 3 && (t188 == 0 && (t189 == 6 && (t190 == (-20) && (t191 == 0 && (t192 == 0 && (t193 == 0 && (t194 == 0 && (t195 == 0 && (t196 == 0 && (t197 == 72623859790382856))))))))))))) = true then (if (t198.length : Int) = 1 then (if 0 < (t198.length : Int) then (if (rd t198 0) = 9 then (if t201 = 0 then (if t223 = 5 then (if t225 = 1380013125 then (if t226 = 0 then (if t227.toList = ([82, 65, 84, 69] : List UInt8) then (if t228 = true then ((ntpmsg_Synced.f 0 4 3 0 6 (-20) 0 0 0 0 0 0 72623859790382856).bind fun t230 => (if t230 = true then (none) else ((ntpmsg_Synced.f 0 0 0 1 0 0 0 0 0 0 0 0 0).bind fun t231 => (if t231 = true then (some true) else (none))))) else (none)) else (none)) else (none)) else (none)) else (none)) else (none)) else (none)) else (none)) else (none)) else (none)) = some r := H
                    have A47 := Aside0.mk A470
                    clear A470
                    by_cases c48 : (t185 == 0 && (t186 == 4 && (t187 == 3 && (t188 == 0 && (t189 == 6 && (t190 == (-20) && (t191 == 0 && (t192 == 0 && (t193 == 0 && (t194 == 0 && (t195 == 0 && (t196 == 0 && (t197 == 72623859790382856))))))))))))) = true
                    · rw [if_pos c48] at H
                      have c48b0 : (t185 == 0 && (t186 == 4 && (t187 == 3 && (t188 == 0 && (t189 == 6 && (t190 == (-20) && (t191 == 0 && (t192 == 0 && (t193 == 0 && (t194 == 0 && (t195 == 0 && (t196 == 0 && (t197 == 72623859790382856))))))))))))) = true := c48
                      (try (have c48b1 : decide (t185 = 0 && (t186 == 4 && (t187 == 3 && (t188 == 0 && (t189 == 6 && (t190 == (-20) && (t191 == 0 && (t192 == 0 && (t193 == 0 && (t194 == 0 && (t195 == 0 && (t196 == 0 && (t197 == 72623859790382856))))))))))))) = true := by simpa using c48))
                      (try (have c48b2 : (t185 == 0 && (t186 == 4 && (t187 == 3 && (t188 == 0 && (t189 == 6 && (t190 == (-20) && (t191 == 0 && (t192 == 0 && (t193 == 0 && (t194 == 0 && (t195 == 0 && (t196 == 0 && (t197 == 72623859790382856))))))))))))) = true := by simpa using c48))
                      clear c48
                      by_cases c49 : (t198.length : Int) = 1
                      · rw [if_pos c49] at H
                        have c49b0 : ((t198.length : Int) == 1) = true := beq_iff_eq.mpr c49
                        have c49b1 : ((t198.length : Int) != 1) = false := bne_eq_false_iff_eq.mpr c49
                        clear c49
                        by_cases c50 : 0 < (t198.length : Int)
                        · rw [if_pos c50] at H
                          have c50b0 : decide (0 < (t198.length : Int)) = true := decide_eq_true c50
                          have c50b1 : decide (0 < t198.length) = true := decide_eq_true (by omega)
                          clear c50
                          by_cases c51 : (rd t198 0) = 9
                          · rw [if_pos c51] at H
                            have c51b0 : ((rd t198 0) == 9) = true := beq_iff_eq.mpr c51
                            have c51b1 : ((rd t198 0) != 9) = false := bne_eq_false_iff_eq.mpr c51
                            clear c51
                            by_cases c52 : t201 = 0
                            · rw [if_pos c52] at H
                              have c52b0 : (t201 == 0) = true := beq_iff_eq.mpr c52
                              have c52b1 : (t201 != 0) = false := bne_eq_false_iff_eq.mpr c52
                              clear c52
                              by_cases c53 : t223 = 5
                              · rw [if_pos c53] at H
                                have c53b0 : (t223 == 5) = true := beq_iff_eq.mpr c53
                                have c53b1 : (t223 != 5) = false := bne_eq_false_iff_eq.mpr c53
                                clear c53
                                by_cases c54 : t225 = 1380013125
                                · rw [if_pos c54] at H
                                  have c54b0 : (t225 == 1380013125) = true := beq_iff_eq.mpr c54
                                  have c54b1 : (t225 != 1380013125) = false := bne_eq_false_iff_eq.mpr c54
                                  clear c54
                                  by_cases c55 : t226 = 0
                                  · rw [if_pos c55] at H
                                    have c55b0 : (t226 == 0) = true := beq_iff_eq.mpr c55
                                    have c55b1 : (t226 != 0) = false := bne_eq_false_iff_eq.mpr c55
                                    clear c55
                                    by_cases c56 : t227.toList = ([82, 65, 84, 69] : List UInt8)
                                    · rw [if_pos c56] at H
                                      have c56b0 : (t227.toList == ([82, 65, 84, 69] : List UInt8)) = true := beq_iff_eq.mpr c56
                                      have c56b1 : (t227.toList != ([82, 65, 84, 69] : List UInt8)) = false := bne_eq_false_iff_eq.mpr c56
                                      clear c56
                                      by_cases c57 : t228 = true
                                      · subst c57
                                        have H1 : ((ntpmsg_Synced.f 0 4 3 0 6 (-20) 0 0 0 0 0 0 72623859790382856).bind fun t230 => (if t230 = true then (none) else ((ntpmsg_Synced.f 0 0 0 1 0 0 0 0 0 0 0 0 0).bind fun t231 => (if t231 = true then (some true) else (none))))) = some r := by rw [if_pos rfl] at H; exact H
                                        clear H
                                        have H := H1
                                        clear H1
                                        replace H := Option.bind_eq_some_iff.mp H
                                        obtain ⟨t230, A580, H⟩ := H
                                        replace H : (if t230 = true then (none) else ((ntpmsg_Synced.f 0 0 0 1 0 0 0 0 0 0 0 0 0).bind fun t231 => (if t231 = true then (some true) else (none)))) = some r := H
                                        have A58 := Aside0.mk A580
                                        clear A580
                                        by_cases c59 : t230 = true
                                        · subst c59
                                          have H1 : (none) = some r := by rw [if_pos rfl] at H; exact H
                                          clear H
                                          have H := H1
                                          clear H1
                                          exact absurd H (by simp)
                                        · replace c59 := Bool.eq_false_iff.mpr c59
                                          subst c59
                                          have H1 : ((ntpmsg_Synced.f 0 0 0 1 0 0 0 0 0 0 0 0 0).bind fun t231 => (if t231 = true then (some true) else (none))) = some r := by rw [if_neg (show ¬ (false = true) by decide)] at H; exact H
                                          clear H
                                          have H := H1
                                          clear H1
                                          replace H := Option.bind_eq_some_iff.mp H
                                          obtain ⟨t231, A600, H⟩ := H
                                          replace H : (if t231 = true then (some true) else (none)) = some r := H
                                          have A60 := Aside0.mk A600
                                          clear A600
                                          by_cases c61 : t231 = true
                                          · subst c61
                                            have H1 : (some true) = some r := by rw [if_pos rfl] at H; exact H
                                            clear H
                                            have H := H1
                                            clear H1
                                            obtain rfl := Option.some.inj H
                                            go_wp2_with (first | ((with_reducible refine gate_dst (N := 71) rfl ?_); (try (refine gate_guard (by rfl) ?_; dsimp only)); refine Kd.R_lit (Kd.int .u8) _ 5 ?hg (N := 71) ?hd (xs := ([] : List Int)) (inner := []) (ok := fun _ => True) (okp := fun _ => True) ?hr ?hp (fun _ hk => hk) trivial (Below.refl _ _) (Nat.le_refl _) (by simp) ?_; (case hd => rfl); (case hg => rfl); (case hr => first | (go_simp; done) | (go_simp; rfl)); (case hp => exact (Reps.none _ _)); intro v177 w62 ho63 hb hg_ hnew_; clear hg_ hnew_; (first | rw [← Ny176.out] at ho63 | (simp only [Int.reduceToNat] at ho63; rw [← Ny176.out] at ho63)); have n0_ := Aside0.mk (Kd.R_elder' (by (with_reducible repeat (first | apply Kd.R_alloc | apply Kd.R_drewN | apply Kd.R_drew)); exact HO_2.out) (Kd.R_base ho63) hb); have n1_ := Aside0.mk (Kd.R_lower (Kd.R_new' ho63 (Kd.R_lt (by (with_reducible repeat (first | apply Kd.R_alloc | apply Kd.R_drewN | apply Kd.R_drew)); exact HO_2.out))) (below_size (by repeat (first | (with_reducible first | exact HB.out | apply below_alloc | apply pw_below_drewN | apply below_drew1 | refine below_set ?_ GE165.out) | exact HB.out)))); have n2_ := Aside0.mk (blk_below (g := gb165) (o := .cells #[.int .i64 0, .int .i64 4, .int .i64 3, .int .i64 0, .int .i64 6, .int .i64 (-20), .int .u32 0, .int .u32 0, .int .u32 0, .int .u64 0, .int .u64 0, .int .u64 0, .int .u64 72623859790382856] 25 (0, 0)) (by (with_reducible repeat (first | refine blk_drewN ?_ _ | refine blk_drew ?_ | refine blk_alloc ?_ _)); exact BK165.out) hb); have n3_ := Aside0.mk (below_step (by repeat (first | (with_reducible first | exact HB.out | apply below_alloc | apply pw_below_drewN | apply below_drew1 | refine below_set ?_ GE165.out) | exact HB.out)) hb); clear HO_2; clear BK165; clear HB; have HO_2 := n0_; have HO178 := n1_; have BK165 := n2_; have HB := n3_; clear n0_ n1_ n2_ n3_; clear hb ho63; obtain ⟨Ao65, co65, eo65⟩ := Kd.R_slice HO_2.out; subst eo65) | ((with_reducible refine gate_builtin (b := .append) (xs := #[.tmp 71, .tmp 72]) rfl ?_); (try (refine gate_guard (by rfl) ?_; dsimp only)); at_builtin; refine Kd.R_append_rows (Kd.int .u8) (w0 := w) w.heap.size rfl (.tmp 71) (.tmp 72) 26 5 (.int .u8 0) 1 rfl Try.underlying26 info5 rfl (by decide) (by omega) v177 y176 t166 _ _ _ (fun k_ => some k_ ≠ (.slice Ao65 t166.length co65 : Value).ownBlock) (fun _ => False) rfl rfl ?aO ?aR (fun _ _ h => h) (fun _ h => h.elim) ?aF ?aB ?aS ?aL ?_; (case aR => repeat (first | exact (Kd.R_reads' HO_2.out).2.2 | (with_reducible refine Kd.C_alloc ?_ _) | (with_reducible refine Kd.C_drewN ?_ _) | (with_reducible refine Kd.C_drew ?_))); (case aB => exact (by repeat (first | (with_reducible first | exact HB.out | apply below_alloc | apply pw_below_drewN | apply below_drew1 | refine below_set ?_ GE165.out) | exact HB.out))); (case aF => exact (fun k_ hk => Kd.fresh' (Kd.R_lt (by (with_reducible repeat (first | apply Kd.R_alloc | apply Kd.R_drewN | apply Kd.R_drew)); exact HO_2.out)) k_ hk)); (case aO => exact (by (with_reducible repeat (first | apply Kd.R_alloc | apply Kd.R_drewN | apply Kd.R_drew)); exact Kd.R_mono HO178.out (fun _ hk => hk.2))); (case aS => exact (below_size (by repeat (first | (with_reducible first | exact HB.out | apply below_alloc | apply pw_below_drewN | apply below_drew1 | refine below_set ?_ GE165.out) | exact HB.out)))); (case aL => have := LMc41.out; omega); intro v180 w64 ho hb hg hat; rw [← Ny179.out] at ho; have n0_ := Aside0.mk (Kd.R_after (ok := (fun _ => True)) (by (with_reducible repeat (first | apply Kd.R_alloc | apply Kd.R_drewN | apply Kd.R_drew)); exact HO_2.out) hg hat); have n1_ := Aside0.mk (blk_grown (g := gb165) (o := .cells #[.int .i64 0, .int .i64 4, .int .i64 3, .int .i64 0, .int .i64 6, .int .i64 (-20), .int .u32 0, .int .u32 0, .int .u32 0, .int .u64 0, .int .u64 0, .int .u64 0, .int .u64 72623859790382856] 25 (0, 0)) (by (with_reducible repeat (first | refine blk_drewN ?_ _ | refine blk_drew ?_ | refine blk_alloc ?_ _)); exact BK165.out) hg (Kd.R_ne HO178.out BK165.out (by decide))); have n2_ := Aside0.mk (hb); have n3_ := Aside0.mk (ho); clear HO_2; clear BK165; clear HB; clear HO178; have HO_2 := n0_; have BK165 := n1_; have HB := n2_; have HO181 := n3_; clear n0_ n1_ n2_ n3_; clear ho hb hg hat) | ((with_reducible refine gate_builtin (b := .append) (xs := #[.tmp 73, .tmp 74]) rfl ?_); (try (refine gate_guard (by rfl) ?_; dsimp only)); at_builtin; refine Kd.R_append (Kd.int .u8) (w0 := w) w.heap.size rfl (.tmp 73) (.tmp 74) 26 5 (.int .u8 0) 1 rfl Try.underlying26 info5 rfl (by decide) (by omega) v180 y179 9 [.int .u8 9] (fun k_ => some k_ ≠ (.slice Ao65 t166.length co65 : Value).ownBlock) (fun _ => False) rfl rfl ?aP (fun _ hk => hk.elim) ?aF ?aO ?aB ?aS ?aL ?_; (case aP => exact rfl); (case aB => exact (by repeat (first | (with_reducible first | exact HB.out | apply below_alloc | apply pw_below_drewN | apply below_drew1 | refine below_set ?_ GE165.out) | exact HB.out))); (case aF => exact (fun k_ hk => Kd.fresh' (Kd.R_lt (by (with_reducible repeat (first | apply Kd.R_alloc | apply Kd.R_drewN | apply Kd.R_drew)); exact HO_2.out)) k_ hk)); (case aO => exact (by (with_reducible repeat (first | apply Kd.R_alloc | apply Kd.R_drewN | apply Kd.R_drew)); exact HO181.out)); (case aS => exact (below_size (by repeat (first | (with_reducible first | exact HB.out | apply below_alloc | apply pw_below_drewN | apply below_drew1 | refine below_set ?_ GE165.out) | exact HB.out)))); (case aL => have := LMc42.out; omega); intro v183 w66 ho hb hg hat; rw [← Ny182.out] at ho; have n0_ := Aside0.mk (Kd.R_after (ok := (fun _ => True)) (by (with_reducible repeat (first | apply Kd.R_alloc | apply Kd.R_drewN | apply Kd.R_drew)); exact HO_2.out) hg hat); have n1_ := Aside0.mk (blk_grown (g := gb165) (o := .cells #[.int .i64 0, .int .i64 4, .int .i64 3, .int .i64 0, .int .i64 6, .int .i64 (-20), .int .u32 0, .int .u32 0, .int .u32 0, .int .u64 0, .int .u64 0, .int .u64 0, .int .u64 72623859790382856] 25 (0, 0)) (by (with_reducible repeat (first | refine blk_drewN ?_ _ | refine blk_drew ?_ | refine blk_alloc ?_ _)); exact BK165.out) hg (Kd.R_ne HO181.out BK165.out (by decide))); have n2_ := Aside0.mk (hb); have n3_ := Aside0.mk (ho); clear HO_2; clear BK165; clear HB; clear HO181; have HO_2 := n0_; have BK165 := n1_; have HB := n2_; have HO184 := n3_; clear n0_ n1_ n2_ n3_; clear ho hb hg hat; obtain ⟨Ao67, co67, eo67⟩ := Kd.R_slice HO184.out; subst eo67) | ((with_reducible refine gate_callee (f := 14) rfl ?_); refine goesL_ (some 76) rfl rfl Try.func14 (by kernel_rfl) rfl #[.slice Ao67 y182.length co67] rfl (by (try simp only [List.map_toArray, List.map_cons, List.map_nil]); first | done | rfl | (simp only [List.length_drop, List.length_take]; rfl)) ?_; (with_reducible refine (ntpmsg_Decode.calls _ _ y182 t185 t186 t187 t188 t189 t190 t191 t192 t193 t194 t195 t196 t197 t198 t201 _ ?side1 ?side2 A43.out).mono ?_); (case side1 => repeat (first | exact (Kd.R_reads' HO184.out).2.2 | (with_reducible refine Kd.C_alloc ?_ _) | (with_reducible refine Kd.C_drewN ?_ _) | (with_reducible refine Kd.C_drew ?_))); (case side2 => exact (Kd.R_reads' HO184.out).2.1); rintro e w68 ⟨v199, rfl, ho0, hb⟩; refine ⟨_, rfl, ?_⟩; have n0_ := Aside0.mk (Kd.R_elder' (by (with_reducible repeat (first | apply Kd.R_alloc | apply Kd.R_drewN | apply Kd.R_drew)); exact HO_2.out) (Kd.R_base ho0) hb); have n1_ := Aside0.mk (Kd.R_elder' (by (with_reducible repeat (first | apply Kd.R_alloc | apply Kd.R_drewN | apply Kd.R_drew)); exact HO184.out) (Kd.R_base ho0) hb); have n2_ := Aside0.mk (Kd.R_lower (Kd.R_new' (Kd.R_new' ho0 (Kd.R_lt (by (with_reducible repeat (first | apply Kd.R_alloc | apply Kd.R_drewN | apply Kd.R_drew)); exact HO_2.out))) (Kd.R_lt (by (with_reducible repeat (first | apply Kd.R_alloc | apply Kd.R_drewN | apply Kd.R_drew)); exact HO184.out))) (below_size (by repeat (first | (with_reducible first | exact HB.out | apply below_alloc | apply pw_below_drewN | apply below_drew1 | refine below_set ?_ GE165.out) | exact HB.out)))); have n3_ := Aside0.mk (blk_below (g := gb165) (o := .cells #[.int .i64 0, .int .i64 4, .int .i64 3, .int .i64 0, .int .i64 6, .int .i64 (-20), .int .u32 0, .int .u32 0, .int .u32 0, .int .u64 0, .int .u64 0, .int .u64 0, .int .u64 72623859790382856] 25 (0, 0)) (by (with_reducible repeat (first | refine blk_drewN ?_ _ | refine blk_drew ?_ | refine blk_alloc ?_ _)); exact BK165.out) hb); have n4_ := Aside0.mk (below_step (by repeat (first | (with_reducible first | exact HB.out | apply below_alloc | apply pw_below_drewN | apply below_drew1 | refine below_set ?_ GE165.out) | exact HB.out)) hb); clear HO_2; clear HO184; clear BK165; clear HB; have HO_2 := n0_; have HO184 := n1_; have HO200 := n2_; have BK165 := n3_; have HB := n4_; clear n0_ n1_ n2_ n3_ n4_; (try clear hb); (try clear hb2); (try clear hk); (try clear hi); (try clear ho0)) | ((with_reducible refine gate_dst (N := 5) rfl ?_); (try (refine gate_guard (by rfl) ?_; dsimp only)); refine box_event ?hg (N := 5) ?hd (cs := #[.int .i64 0, .int .i64 0, .int .i64 0, .int .i64 0, .int .i64 0, .int .i64 0, .int .u32 0, .int .u32 0, .int .u32 0, .int .u64 0, .int .u64 0, .int .u64 0, .int .u64 0]) (t := 25) ?hr ?_; (case hd => rfl); (case hg => rfl); (case hr => first | (go_simp; done) | (go_simp; rfl)); intro gb202 hg w69 hbox hb; have n0_ := Aside0.mk (Kd.R_below (by (with_reducible repeat (first | apply Kd.R_alloc | apply Kd.R_drewN | apply Kd.R_drew)); exact HO_2.out) hb); have n1_ := Aside0.mk (Kd.R_below (by (with_reducible repeat (first | apply Kd.R_alloc | apply Kd.R_drewN | apply Kd.R_drew)); exact HO184.out) hb); have n2_ := Aside0.mk (Kd.R_below (by (with_reducible repeat (first | apply Kd.R_alloc | apply Kd.R_drewN | apply Kd.R_drew)); exact HO200.out) hb); have n3_ := Aside0.mk (blk_below (g := gb165) (o := .cells #[.int .i64 0, .int .i64 4, .int .i64 3, .int .i64 0, .int .i64 6, .int .i64 (-20), .int .u32 0, .int .u32 0, .int .u32 0, .int .u64 0, .int .u64 0, .int .u64 0, .int .u64 72623859790382856] 25 (0, 0)) (by (with_reducible repeat (first | refine blk_drewN ?_ _ | refine blk_drew ?_ | refine blk_alloc ?_ _)); exact BK165.out) hb); have n4_ := Aside0.mk (below_step (by repeat (first | (with_reducible first | exact HB.out | apply below_alloc | apply pw_below_drewN | apply below_drew1 | refine below_set ?_ GE165.out) | exact HB.out)) hb); have n5_ := Aside0.mk (hbox); have n6_ := Aside0.mk ((by rw [hg]; exact (below_size (by repeat (first | (with_reducible first | exact HB.out | apply below_alloc | apply pw_below_drewN | apply below_drew1 | refine below_set ?_ GE165.out) | exact HB.out))) : w.heap.size ≤ gb202)); have n7_ := Aside0.mk ((by rw [hg]; exact (below_size (by repeat (first | (with_reducible first | exact HB.out | apply below_alloc | apply pw_below_drewN | apply below_drew1 | refine below_set ?_ GE165.out) | exact HB.out))) : w.heap.size ≤ gb202)); have n8_ := Aside0.mk ((by rw [hg]; exact Nat.ne_of_lt (blk_lt (g := gb165) (o := .cells #[.int .i64 0, .int .i64 4, .int .i64 3, .int .i64 0, .int .i64 6, .int .i64 (-20), .int .u32 0, .int .u32 0, .int .u32 0, .int .u64 0, .int .u64 0, .int .u64 0, .int .u64 72623859790382856] 25 (0, 0)) (by (with_reducible repeat (first | refine blk_drewN ?_ _ | refine blk_drew ?_ | refine blk_alloc ?_ _)); exact BK165.out)) : gb165 ≠ gb202)); have n9_ := Aside0.mk ((by rw [hg]; exact Nat.ne_of_gt (blk_lt (g := gb165) (o := .cells #[.int .i64 0, .int .i64 4, .int .i64 3, .int .i64 0, .int .i64 6, .int .i64 (-20), .int .u32 0, .int .u32 0, .int .u32 0, .int .u64 0, .int .u64 0, .int .u64 0, .int .u64 72623859790382856] 25 (0, 0)) (by (with_reducible repeat (first | refine blk_drewN ?_ _ | refine blk_drew ?_ | refine blk_alloc ?_ _)); exact BK165.out)) : gb202 ≠ gb165)); clear HO_2; clear HO184; clear HO200; clear BK165; clear HB; have HO_2 := n0_; have HO184 := n1_; have HO200 := n2_; have BK165 := n3_; have HB := n4_; have BK202 := n5_; have GW202 := n6_; have GE202 := n7_; have NB165_202 := n8_; have NB202_165 := n9_; clear n0_ n1_ n2_ n3_ n4_ n5_ n6_ n7_ n8_ n9_; clear hb hbox hg; have hnb70 := NB202_165.out; have hnc70 := NB165_202.out; have hcz71_0 : w69.cell? ⟨gb202, 0, none⟩ = some (.int .i64 0) := (blk_cell BK202.out 0).trans rfl; have hcz71_1 : w69.cell? ⟨gb202, 1, none⟩ = some (.int .i64 0) := (blk_cell BK202.out 1).trans rfl; have hcz71_2 : w69.cell? ⟨gb202, 2, none⟩ = some (.int .i64 0) := (blk_cell BK202.out 2).trans rfl; have hcz71_3 : w69.cell? ⟨gb202, 3, none⟩ = some (.int .i64 0) := (blk_cell BK202.out 3).trans rfl; have hcz71_4 : w69.cell? ⟨gb202, 4, none⟩ = some (.int .i64 0) := (blk_cell BK202.out 4).trans rfl; have hcz71_5 : w69.cell? ⟨gb202, 5, none⟩ = some (.int .i64 0) := (blk_cell BK202.out 5).trans rfl; have hcz71_6 : w69.cell? ⟨gb202, 6, none⟩ = some (.int .u32 0) := (blk_cell BK202.out 6).trans rfl; have hcz71_7 : w69.cell? ⟨gb202, 7, none⟩ = some (.int .u32 0) := (blk_cell BK202.out 7).trans rfl; have hcz71_8 : w69.cell? ⟨gb202, 8, none⟩ = some (.int .u32 0) := (blk_cell BK202.out 8).trans rfl; have hcz71_9 : w69.cell? ⟨gb202, 9, none⟩ = some (.int .u64 0) := (blk_cell BK202.out 9).trans rfl; have hcz71_10 : w69.cell? ⟨gb202, 10, none⟩ = some (.int .u64 0) := (blk_cell BK202.out 10).trans rfl; have hcz71_11 : w69.cell? ⟨gb202, 11, none⟩ = some (.int .u64 0) := (blk_cell BK202.out 11).trans rfl; have hcz71_12 : w69.cell? ⟨gb202, 12, none⟩ = some (.int .u64 0) := (blk_cell BK202.out 12).trans rfl; have hfz71_0 := blk_frozen BK202.out 0; have hfz71_1 := blk_frozen BK202.out 1; have hfz71_2 := blk_frozen BK202.out 2; have hfz71_3 := blk_frozen BK202.out 3; have hfz71_4 := blk_frozen BK202.out 4; have hfz71_5 := blk_frozen BK202.out 5; have hfz71_6 := blk_frozen BK202.out 6; have hfz71_7 := blk_frozen BK202.out 7; have hfz71_8 := blk_frozen BK202.out 8; have hfz71_9 := blk_frozen BK202.out 9; have hfz71_10 := blk_frozen BK202.out 10; have hfz71_11 := blk_frozen BK202.out 11; have hfz71_12 := blk_frozen BK202.out 12) | ((with_reducible refine gate_store (t := 25) (p := 5) rfl ?_); refine store_event (t := 25) (p := 5) (v := ?vo_w72) (w1 := (((((((((((((w69.setCell ⟨gb202, 0, none⟩ (.int .i64 t185)).setCell ⟨gb202, 1, none⟩ (.int .i64 t186)).setCell ⟨gb202, 2, none⟩ (.int .i64 t187)).setCell ⟨gb202, 3, none⟩ (.int .i64 t188)).setCell ⟨gb202, 4, none⟩ (.int .i64 t189)).setCell ⟨gb202, 5, none⟩ (.int .i64 t190)).setCell ⟨gb202, 6, none⟩ (.int .u32 t191)).setCell ⟨gb202, 7, none⟩ (.int .u32 t192)).setCell ⟨gb202, 8, none⟩ (.int .u32 t193)).setCell ⟨gb202, 9, none⟩ (.int .u64 t194)).setCell ⟨gb202, 10, none⟩ (.int .u64 t195)).setCell ⟨gb202, 11, none⟩ (.int .u64 t196)).setCell ⟨gb202, 12, none⟩ (.int .u64 t197))) ?hg ?ho ?hn ?hr ?_; (case ho => rfl); (case hg => rfl); (case hn => rfl); (case hr => first | (go_simp; done) | (go_simp; rfl)); intro w72 hw; have n0_ : Aside0 (Kd.R (Kd.int .u8) 5 w72 w.heap.size (fun k_ => some k_ ≠ (.slice Ao67 y182.length co67 : Value).ownBlock ∧ some k_ ≠ (v199 : Value).ownBlock) (.slice Ao65 t166.length co65) t166) := ⟨(by rw [hw]; exact (by (with_reducible repeat (first | apply Kd.R_alloc | apply Kd.R_drewN | apply Kd.R_drew)); exact Kd.R_mono (Kd.R_far (p := ⟨gb202, 12, none⟩) (Kd.R_far (p := ⟨gb202, 11, none⟩) (Kd.R_far (p := ⟨gb202, 10, none⟩) (Kd.R_far (p := ⟨gb202, 9, none⟩) (Kd.R_far (p := ⟨gb202, 8, none⟩) (Kd.R_far (p := ⟨gb202, 7, none⟩) (Kd.R_far (p := ⟨gb202, 6, none⟩) (Kd.R_far (p := ⟨gb202, 5, none⟩) (Kd.R_far (p := ⟨gb202, 4, none⟩) (Kd.R_far (p := ⟨gb202, 3, none⟩) (Kd.R_far (p := ⟨gb202, 2, none⟩) (Kd.R_far (p := ⟨gb202, 1, none⟩) (Kd.R_far (p := ⟨gb202, 0, none⟩) (Kd.R_types HO_2.out BK202.out (by decide)) (fun _ hk => hk.2) (.int .i64 t185)) (fun _ hk => hk.2) (.int .i64 t186)) (fun _ hk => hk.2) (.int .i64 t187)) (fun _ hk => hk.2) (.int .i64 t188)) (fun _ hk => hk.2) (.int .i64 t189)) (fun _ hk => hk.2) (.int .i64 t190)) (fun _ hk => hk.2) (.int .u32 t191)) (fun _ hk => hk.2) (.int .u32 t192)) (fun _ hk => hk.2) (.int .u32 t193)) (fun _ hk => hk.2) (.int .u64 t194)) (fun _ hk => hk.2) (.int .u64 t195)) (fun _ hk => hk.2) (.int .u64 t196)) (fun _ hk => hk.2) (.int .u64 t197)) (fun _ hk => ⟨hk.1.1.2, hk.1.2⟩)))⟩; have n1_ : Aside0 (Kd.R (Kd.int .u8) 5 w72 w.heap.size (fun k_ => some k_ ≠ (.slice Ao65 t166.length co65 : Value).ownBlock ∧ some k_ ≠ (v199 : Value).ownBlock) (.slice Ao67 y182.length co67) y182) := ⟨(by rw [hw]; exact (by (with_reducible repeat (first | apply Kd.R_alloc | apply Kd.R_drewN | apply Kd.R_drew)); exact Kd.R_mono (Kd.R_far (p := ⟨gb202, 12, none⟩) (Kd.R_far (p := ⟨gb202, 11, none⟩) (Kd.R_far (p := ⟨gb202, 10, none⟩) (Kd.R_far (p := ⟨gb202, 9, none⟩) (Kd.R_far (p := ⟨gb202, 8, none⟩) (Kd.R_far (p := ⟨gb202, 7, none⟩) (Kd.R_far (p := ⟨gb202, 6, none⟩) (Kd.R_far (p := ⟨gb202, 5, none⟩) (Kd.R_far (p := ⟨gb202, 4, none⟩) (Kd.R_far (p := ⟨gb202, 3, none⟩) (Kd.R_far (p := ⟨gb202, 2, none⟩) (Kd.R_far (p := ⟨gb202, 1, none⟩) (Kd.R_far (p := ⟨gb202, 0, none⟩) (Kd.R_types HO184.out BK202.out (by decide)) (fun _ hk => hk.2) (.int .i64 t185)) (fun _ hk => hk.2) (.int .i64 t186)) (fun _ hk => hk.2) (.int .i64 t187)) (fun _ hk => hk.2) (.int .i64 t188)) (fun _ hk => hk.2) (.int .i64 t189)) (fun _ hk => hk.2) (.int .i64 t190)) (fun _ hk => hk.2) (.int .u32 t191)) (fun _ hk => hk.2) (.int .u32 t192)) (fun _ hk => hk.2) (.int .u32 t193)) (fun _ hk => hk.2) (.int .u64 t194)) (fun _ hk => hk.2) (.int .u64 t195)) (fun _ hk => hk.2) (.int .u64 t196)) (fun _ hk => hk.2) (.int .u64 t197)) (fun _ hk => ⟨hk.1.1, hk.1.2⟩)))⟩; have n2_ : Aside0 (Kd.R (Kd.int .u8) 5 w72 w.heap.size (fun k_ => some k_ ≠ (.slice Ao65 t166.length co65 : Value).ownBlock ∧ some k_ ≠ (.slice Ao67 y182.length co67 : Value).ownBlock) v199 t198) := ⟨(by rw [hw]; exact (by (with_reducible repeat (first | apply Kd.R_alloc | apply Kd.R_drewN | apply Kd.R_drew)); exact Kd.R_mono (Kd.R_far (p := ⟨gb202, 12, none⟩) (Kd.R_far (p := ⟨gb202, 11, none⟩) (Kd.R_far (p := ⟨gb202, 10, none⟩) (Kd.R_far (p := ⟨gb202, 9, none⟩) (Kd.R_far (p := ⟨gb202, 8, none⟩) (Kd.R_far (p := ⟨gb202, 7, none⟩) (Kd.R_far (p := ⟨gb202, 6, none⟩) (Kd.R_far (p := ⟨gb202, 5, none⟩) (Kd.R_far (p := ⟨gb202, 4, none⟩) (Kd.R_far (p := ⟨gb202, 3, none⟩) (Kd.R_far (p := ⟨gb202, 2, none⟩) (Kd.R_far (p := ⟨gb202, 1, none⟩) (Kd.R_far (p := ⟨gb202, 0, none⟩) (Kd.R_types HO200.out BK202.out (by decide)) (fun _ hk => hk.2) (.int .i64 t185)) (fun _ hk => hk.2) (.int .i64 t186)) (fun _ hk => hk.2) (.int .i64 t187)) (fun _ hk => hk.2) (.int .i64 t188)) (fun _ hk => hk.2) (.int .i64 t189)) (fun _ hk => hk.2) (.int .i64 t190)) (fun _ hk => hk.2) (.int .u32 t191)) (fun _ hk => hk.2) (.int .u32 t192)) (fun _ hk => hk.2) (.int .u32 t193)) (fun _ hk => hk.2) (.int .u64 t194)) (fun _ hk => hk.2) (.int .u64 t195)) (fun _ hk => hk.2) (.int .u64 t196)) (fun _ hk => hk.2) (.int .u64 t197)) (fun _ hk => ⟨hk.1.1.2, hk.1.2⟩)))⟩; have n3_ : Aside0 (w72.heap[gb165]? = some (.cells #[.int .i64 0, .int .i64 4, .int .i64 3, .int .i64 0, .int .i64 6, .int .i64 (-20), .int .u32 0, .int .u32 0, .int .u32 0, .int .u64 0, .int .u64 0, .int .u64 0, .int .u64 72623859790382856] 25 (0, 0))) := ⟨(by rw [hw]; exact (by (with_reducible repeat (first | refine blk_drewN ?_ _ | refine blk_drew ?_ | refine blk_alloc ?_ _)); refine blk_far ?_ NB165_202.out _; (with_reducible repeat (first | refine blk_drewN ?_ _ | refine blk_drew ?_ | refine blk_alloc ?_ _)); refine blk_far ?_ NB165_202.out _; (with_reducible repeat (first | refine blk_drewN ?_ _ | refine blk_drew ?_ | refine blk_alloc ?_ _)); refine blk_far ?_ NB165_202.out _; (with_reducible repeat (first | refine blk_drewN ?_ _ | refine blk_drew ?_ | refine blk_alloc ?_ _)); refine blk_far ?_ NB165_202.out _; (with_reducible repeat (first | refine blk_drewN ?_ _ | refine blk_drew ?_ | refine blk_alloc ?_ _)); refine blk_far ?_ NB165_202.out _; (with_reducible repeat (first | refine blk_drewN ?_ _ | refine blk_drew ?_ | refine blk_alloc ?_ _)); refine blk_far ?_ NB165_202.out _; (with_reducible repeat (first | refine blk_drewN ?_ _ | refine blk_drew ?_ | refine blk_alloc ?_ _)); refine blk_far ?_ NB165_202.out _; (with_reducible repeat (first | refine blk_drewN ?_ _ | refine blk_drew ?_ | refine blk_alloc ?_ _)); refine blk_far ?_ NB165_202.out _; (with_reducible repeat (first | refine blk_drewN ?_ _ | refine blk_drew ?_ | refine blk_alloc ?_ _)); refine blk_far ?_ NB165_202.out _; (with_reducible repeat (first | refine blk_drewN ?_ _ | refine blk_drew ?_ | refine blk_alloc ?_ _)); refine blk_far ?_ NB165_202.out _; (with_reducible repeat (first | refine blk_drewN ?_ _ | refine blk_drew ?_ | refine blk_alloc ?_ _)); refine blk_far ?_ NB165_202.out _; (with_reducible repeat (first | refine blk_drewN ?_ _ | refine blk_drew ?_ | refine blk_alloc ?_ _)); refine blk_far ?_ NB165_202.out _; (with_reducible repeat (first | refine blk_drewN ?_ _ | refine blk_drew ?_ | refine blk_alloc ?_ _)); refine blk_far ?_ NB165_202.out _; (with_reducible repeat (first | refine blk_drewN ?_ _ | refine blk_drew ?_ | refine blk_alloc ?_ _)); exact BK165.out))⟩; have n4_ : Aside0 (w72.heap[gb202]? = some (.cells #[.int .i64 t185, .int .i64 t186, .int .i64 t187, .int .i64 t188, .int .i64 t189, .int .i64 t190, .int .u32 t191, .int .u32 t192, .int .u32 t193, .int .u64 t194, .int .u64 t195, .int .u64 t196, .int .u64 t197] 25 (0, 0))) := ⟨(by rw [hw]; exact (by (with_reducible repeat (first | refine blk_drewN ?_ _ | refine blk_drew ?_ | refine blk_alloc ?_ _)); refine blk_put (cs := #[.int .i64 t185, .int .i64 t186, .int .i64 t187, .int .i64 t188, .int .i64 t189, .int .i64 t190, .int .u32 t191, .int .u32 t192, .int .u32 t193, .int .u64 t194, .int .u64 t195, .int .u64 t196, .int .u64 0]) ?_ 12 _ rfl; (with_reducible repeat (first | refine blk_drewN ?_ _ | refine blk_drew ?_ | refine blk_alloc ?_ _)); refine blk_put (cs := #[.int .i64 t185, .int .i64 t186, .int .i64 t187, .int .i64 t188, .int .i64 t189, .int .i64 t190, .int .u32 t191, .int .u32 t192, .int .u32 t193, .int .u64 t194, .int .u64 t195, .int .u64 0, .int .u64 0]) ?_ 11 _ rfl; (with_reducible repeat (first | refine blk_drewN ?_ _ | refine blk_drew ?_ | refine blk_alloc ?_ _)); refine blk_put (cs := #[.int .i64 t185, .int .i64 t186, .int .i64 t187, .int .i64 t188, .int .i64 t189, .int .i64 t190, .int .u32 t191, .int .u32 t192, .int .u32 t193, .int .u64 t194, .int .u64 0, .int .u64 0, .int .u64 0]) ?_ 10 _ rfl; (with_reducible repeat (first | refine blk_drewN ?_ _ | refine blk_drew ?_ | refine blk_alloc ?_ _)); refine blk_put (cs := #[.int .i64 t185, .int .i64 t186, .int .i64 t187, .int .i64 t188, .int .i64 t189, .int .i64 t190, .int .u32 t191, .int .u32 t192, .int .u32 t193, .int .u64 0, .int .u64 0, .int .u64 0, .int .u64 0]) ?_ 9 _ rfl; (with_reducible repeat (first | refine blk_drewN ?_ _ | refine blk_drew ?_ | refine blk_alloc ?_ _)); refine blk_put (cs := #[.int .i64 t185, .int .i64 t186, .int .i64 t187, .int .i64 t188, .int .i64 t189, .int .i64 t190, .int .u32 t191, .int .u32 t192, .int .u32 0, .int .u64 0, .int .u64 0, .int .u64 0, .int .u64 0]) ?_ 8 _ rfl; (with_reducible repeat (first | refine blk_drewN ?_ _ | refine blk_drew ?_ | refine blk_alloc ?_ _)); refine blk_put (cs := #[.int .i64 t185, .int .i64 t186, .int .i64 t187, .int .i64 t188, .int .i64 t189, .int .i64 t190, .int .u32 t191, .int .u32 0, .int .u32 0, .int .u64 0, .int .u64 0, .int .u64 0, .int .u64 0]) ?_ 7 _ rfl; (with_reducible repeat (first | refine blk_drewN ?_ _ | refine blk_drew ?_ | refine blk_alloc ?_ _)); refine blk_put (cs := #[.int .i64 t185, .int .i64 t186, .int .i64 t187, .int .i64 t188, .int .i64 t189, .int .i64 t190, .int .u32 0, .int .u32 0, .int .u32 0, .int .u64 0, .int .u64 0, .int .u64 0, .int .u64 0]) ?_ 6 _ rfl; (with_reducible repeat (first | refine blk_drewN ?_ _ | refine blk_drew ?_ | refine blk_alloc ?_ _)); refine blk_put (cs := #[.int .i64 t185, .int .i64 t186, .int .i64 t187, .int .i64 t188, .int .i64 t189, .int .i64 0, .int .u32 0, .int .u32 0, .int .u32 0, .int .u64 0, .int .u64 0, .int .u64 0, .int .u64 0]) ?_ 5 _ rfl; (with_reducible repeat (first | refine blk_drewN ?_ _ | refine blk_drew ?_ | refine blk_alloc ?_ _)); refine blk_put (cs := #[.int .i64 t185, .int .i64 t186, .int .i64 t187, .int .i64 t188, .int .i64 0, .int .i64 0, .int .u32 0, .int .u32 0, .int .u32 0, .int .u64 0, .int .u64 0, .int .u64 0, .int .u64 0]) ?_ 4 _ rfl; (with_reducible repeat (first | refine blk_drewN ?_ _ | refine blk_drew ?_ | refine blk_alloc ?_ _)); refine blk_put (cs := #[.int .i64 t185, .int .i64 t186, .int .i64 t187, .int .i64 0, .int .i64 0, .int .i64 0, .int .u32 0, .int .u32 0, .int .u32 0, .int .u64 0, .int .u64 0, .int .u64 0, .int .u64 0]) ?_ 3 _ rfl; (with_reducible repeat (first | refine blk_drewN ?_ _ | refine blk_drew ?_ | refine blk_alloc ?_ _)); refine blk_put (cs := #[.int .i64 t185, .int .i64 t186, .int .i64 0, .int .i64 0, .int .i64 0, .int .i64 0, .int .u32 0, .int .u32 0, .int .u32 0, .int .u64 0, .int .u64 0, .int .u64 0, .int .u64 0]) ?_ 2 _ rfl; (with_reducible repeat (first | refine blk_drewN ?_ _ | refine blk_drew ?_ | refine blk_alloc ?_ _)); refine blk_put (cs := #[.int .i64 t185, .int .i64 0, .int .i64 0, .int .i64 0, .int .i64 0, .int .i64 0, .int .u32 0, .int .u32 0, .int .u32 0, .int .u64 0, .int .u64 0, .int .u64 0, .int .u64 0]) ?_ 1 _ rfl; (with_reducible repeat (first | refine blk_drewN ?_ _ | refine blk_drew ?_ | refine blk_alloc ?_ _)); refine blk_put (cs := #[.int .i64 0, .int .i64 0, .int .i64 0, .int .i64 0, .int .i64 0, .int .i64 0, .int .u32 0, .int .u32 0, .int .u32 0, .int .u64 0, .int .u64 0, .int .u64 0, .int .u64 0]) ?_ 0 _ rfl; (with_reducible repeat (first | refine blk_drewN ?_ _ | refine blk_drew ?_ | refine blk_alloc ?_ _)); exact BK202.out))⟩; have n5_ : Aside0 (Below w.heap.size w w72) := ⟨(by rw [hw]; exact (by repeat (first | (with_reducible first | exact HB.out | apply below_alloc | apply pw_below_drewN | apply below_drew1 | refine below_set ?_ GE165.out | refine below_set ?_ GE202.out) | exact HB.out)))⟩; clear hw; clear HO_2; clear HO184; clear HO200; clear BK165; clear BK202; clear HB; have HO_2 := n0_; have HO184 := n1_; have HO200 := n2_; have BK165 := n3_; have BK202 := n4_; have HB := n5_; clear n0_ n1_ n2_ n3_ n4_ n5_; have q73 : (47 : Int) ≤ ((t166.length : Int) : Int) := of_decide_eq_true (by first | (with_reducible assumption) | assumption); obtain ⟨i073, hi073, _, hsz73, _⟩ := info_parts info5; have hroom73 : t166.length ≤ co65 := (Kd.R_reads' HO_2.out).2.1; have hC73 : Kd.C (Kd.int .u8) _ Ao65 t166.length t166 := (Kd.R_reads' HO_2.out).2.2; have hcut73 := cut_to (P := Try.prog) 26 5 .i64 Try.underlying26 hi073 Ao65 t166.length co65 47 (by omega) q73 hroom73; have hr73 := Kd.C_take (m := 47) hC73 (by omega); have hy73 : y203.length = (47 : Int).toNat := (by rw [Ny203.out, List.length_take]; omega); rw [← Ny203.out] at hr73; rw [← hy73] at hcut73; have HR206 := Aside0.mk hr73; have HC206 := Aside0.mk (show y203.length ≤ co65 from by omega); clear hr73 hC73 hroom73 hi073 hsz73; have KY73 := Aside0.mk hy73; clear hy73; have KL73 := Aside0.mk (show 47 ≤ t166.length from by omega); replace q73 := eq_true q73) | ((with_reducible refine gate_callee (f := 14) rfl ?_); refine goesL_ (some 83) rfl rfl Try.func14 (by kernel_rfl) rfl #[.slice Ao65 y203.length co65] rfl (by (try simp only [List.map_toArray, List.map_cons, List.map_nil]); first | done | rfl | (simp only [List.length_drop, List.length_take]; rfl)) ?_; (with_reducible refine (ntpmsg_Decode.calls _ _ y203 t207 t208 t209 t210 t211 t212 t213 t214 t215 t216 t217 t218 t219 t220 t223 _ ?side1 ?side2 A45.out).mono ?_); (case side1 => repeat (first | exact (by repeat (first | (with_reducible exact HR206.out) | (with_reducible refine Kd.C_alloc ?_ _) | (with_reducible refine Kd.C_drewN ?_ _) | (with_reducible refine Kd.C_drew ?_) | exact HR206.out)) | (with_reducible refine Kd.C_alloc ?_ _) | (with_reducible refine Kd.C_drewN ?_ _) | (with_reducible refine Kd.C_drew ?_))); (case side2 => exact HC206.out); rintro e w74 ⟨v221, rfl, ho0, hb⟩; refine ⟨_, rfl, ?_⟩; have n0_ := Aside0.mk (Kd.R_elder' (by (with_reducible repeat (first | apply Kd.R_alloc | apply Kd.R_drewN | apply Kd.R_drew)); exact HO_2.out) (Kd.R_base ho0) hb); have n1_ := Aside0.mk (Kd.R_elder' (by (with_reducible repeat (first | apply Kd.R_alloc | apply Kd.R_drewN | apply Kd.R_drew)); exact HO184.out) (Kd.R_base ho0) hb); have n2_ := Aside0.mk (Kd.R_elder' (by (with_reducible repeat (first | apply Kd.R_alloc | apply Kd.R_drewN | apply Kd.R_drew)); exact HO200.out) (Kd.R_base ho0) hb); have n3_ := Aside0.mk (Kd.R_lower (Kd.R_new' (Kd.R_new' (Kd.R_new' ho0 (Kd.R_lt (by (with_reducible repeat (first | apply Kd.R_alloc | apply Kd.R_drewN | apply Kd.R_drew)); exact HO_2.out))) (Kd.R_lt (by (with_reducible repeat (first | apply Kd.R_alloc | apply Kd.R_drewN | apply Kd.R_drew)); exact HO184.out))) (Kd.R_lt (by (with_reducible repeat (first | apply Kd.R_alloc | apply Kd.R_drewN | apply Kd.R_drew)); exact HO200.out))) (below_size (by repeat (first | (with_reducible first | exact HB.out | apply below_alloc | apply pw_below_drewN | apply below_drew1 | refine below_set ?_ GE165.out | refine below_set ?_ GE202.out) | exact HB.out)))); have n4_ := Aside0.mk (blk_below (g := gb165) (o := .cells #[.int .i64 0, .int .i64 4, .int .i64 3, .int .i64 0, .int .i64 6, .int .i64 (-20), .int .u32 0, .int .u32 0, .int .u32 0, .int .u64 0, .int .u64 0, .int .u64 0, .int .u64 72623859790382856] 25 (0, 0)) (by (with_reducible repeat (first | refine blk_drewN ?_ _ | refine blk_drew ?_ | refine blk_alloc ?_ _)); exact BK165.out) hb); have n5_ := Aside0.mk (blk_below (g := gb202) (o := .cells #[.int .i64 t185, .int .i64 t186, .int .i64 t187, .int .i64 t188, .int .i64 t189, .int .i64 t190, .int .u32 t191, .int .u32 t192, .int .u32 t193, .int .u64 t194, .int .u64 t195, .int .u64 t196, .int .u64 t197] 25 (0, 0)) (by (with_reducible repeat (first | refine blk_drewN ?_ _ | refine blk_drew ?_ | refine blk_alloc ?_ _)); exact BK202.out) hb); have n6_ := Aside0.mk (Kd.C_below (by repeat (first | (with_reducible exact HR206.out) | (with_reducible refine Kd.C_alloc ?_ _) | (with_reducible refine Kd.C_drewN ?_ _) | (with_reducible refine Kd.C_drew ?_) | exact HR206.out)) hb); have n7_ := Aside0.mk (below_step (by repeat (first | (with_reducible first | exact HB.out | apply below_alloc | apply pw_below_drewN | apply below_drew1 | refine below_set ?_ GE165.out | refine below_set ?_ GE202.out) | exact HB.out)) hb); clear HO_2; clear HO184; clear HO200; clear BK165; clear BK202; clear HR206; clear HB; have HO_2 := n0_; have HO184 := n1_; have HO200 := n2_; have HO222 := n3_; have BK165 := n4_; have BK202 := n5_; have HR206 := n6_; have HB := n7_; clear n0_ n1_ n2_ n3_ n4_ n5_ n6_ n7_; (try clear hb); (try clear hb2); (try clear hk); (try clear hi); (try clear ho0)) | ((with_reducible refine gate_dst (N := 8) rfl ?_); (try (refine gate_guard (by rfl) ?_; dsimp only)); refine box_event ?hg (N := 8) ?hd (cs := #[.int .i64 0, .int .i64 0, .int .i64 0, .int .i64 0, .int .i64 0, .int .i64 0, .int .u32 0, .int .u32 0, .int .u32 0, .int .u64 0, .int .u64 0, .int .u64 0, .int .u64 0]) (t := 25) ?hr ?_; (case hd => rfl); (case hg => rfl); (case hr => first | (go_simp; done) | (go_simp; rfl)); intro gb224 hg w75 hbox hb; have n0_ := Aside0.mk (Kd.R_below (by (with_reducible repeat (first | apply Kd.R_alloc | apply Kd.R_drewN | apply Kd.R_drew)); exact HO_2.out) hb); have n1_ := Aside0.mk (Kd.R_below (by (with_reducible repeat (first | apply Kd.R_alloc | apply Kd.R_drewN | apply Kd.R_drew)); exact HO184.out) hb); have n2_ := Aside0.mk (Kd.R_below (by (with_reducible repeat (first | apply Kd.R_alloc | apply Kd.R_drewN | apply Kd.R_drew)); exact HO200.out) hb); have n3_ := Aside0.mk (Kd.R_below (by (with_reducible repeat (first | apply Kd.R_alloc | apply Kd.R_drewN | apply Kd.R_drew)); exact HO222.out) hb); have n4_ := Aside0.mk (blk_below (g := gb165) (o := .cells #[.int .i64 0, .int .i64 4, .int .i64 3, .int .i64 0, .int .i64 6, .int .i64 (-20), .int .u32 0, .int .u32 0, .int .u32 0, .int .u64 0, .int .u64 0, .int .u64 0, .int .u64 72623859790382856] 25 (0, 0)) (by (with_reducible repeat (first | refine blk_drewN ?_ _ | refine blk_drew ?_ | refine blk_alloc ?_ _)); exact BK165.out) hb); have n5_ := Aside0.mk (blk_below (g := gb202) (o := .cells #[.int .i64 t185, .int .i64 t186, .int .i64 t187, .int .i64 t188, .int .i64 t189, .int .i64 t190, .int .u32 t191, .int .u32 t192, .int .u32 t193, .int .u64 t194, .int .u64 t195, .int .u64 t196, .int .u64 t197] 25 (0, 0)) (by (with_reducible repeat (first | refine blk_drewN ?_ _ | refine blk_drew ?_ | refine blk_alloc ?_ _)); exact BK202.out) hb); have n6_ := Aside0.mk (Kd.C_below (by repeat (first | (with_reducible exact HR206.out) | (with_reducible refine Kd.C_alloc ?_ _) | (with_reducible refine Kd.C_drewN ?_ _) | (with_reducible refine Kd.C_drew ?_) | exact HR206.out)) hb); have n7_ := Aside0.mk (below_step (by repeat (first | (with_reducible first | exact HB.out | apply below_alloc | apply pw_below_drewN | apply below_drew1 | refine below_set ?_ GE165.out | refine below_set ?_ GE202.out) | exact HB.out)) hb); have n8_ := Aside0.mk (hbox); have n9_ := Aside0.mk ((by rw [hg]; exact (below_size (by repeat (first | (with_reducible first | exact HB.out | apply below_alloc | apply pw_below_drewN | apply below_drew1 | refine below_set ?_ GE165.out | refine below_set ?_ GE202.out) | exact HB.out))) : w.heap.size ≤ gb224)); have n10_ := Aside0.mk ((by rw [hg]; exact (below_size (by repeat (first | (with_reducible first | exact HB.out | apply below_alloc | apply pw_below_drewN | apply below_drew1 | refine below_set ?_ GE165.out | refine below_set ?_ GE202.out) | exact HB.out))) : w.heap.size ≤ gb224)); have n11_ := Aside0.mk ((by rw [hg]; exact Nat.ne_of_lt (blk_lt (g := gb165) (o := .cells #[.int .i64 0, .int .i64 4, .int .i64 3, .int .i64 0, .int .i64 6, .int .i64 (-20), .int .u32 0, .int .u32 0, .int .u32 0, .int .u64 0, .int .u64 0, .int .u64 0, .int .u64 72623859790382856] 25 (0, 0)) (by (with_reducible repeat (first | refine blk_drewN ?_ _ | refine blk_drew ?_ | refine blk_alloc ?_ _)); exact BK165.out)) : gb165 ≠ gb224)); have n12_ := Aside0.mk ((by rw [hg]; exact Nat.ne_of_gt (blk_lt (g := gb165) (o := .cells #[.int .i64 0, .int .i64 4, .int .i64 3, .int .i64 0, .int .i64 6, .int .i64 (-20), .int .u32 0, .int .u32 0, .int .u32 0, .int .u64 0, .int .u64 0, .int .u64 0, .int .u64 72623859790382856] 25 (0, 0)) (by (with_reducible repeat (first | refine blk_drewN ?_ _ | refine blk_drew ?_ | refine blk_alloc ?_ _)); exact BK165.out)) : gb224 ≠ gb165)); have n13_ := Aside0.mk ((by rw [hg]; exact Nat.ne_of_lt (blk_lt (g := gb202) (o := .cells #[.int .i64 t185, .int .i64 t186, .int .i64 t187, .int .i64 t188, .int .i64 t189, .int .i64 t190, .int .u32 t191, .int .u32 t192, .int .u32 t193, .int .u64 t194, .int .u64 t195, .int .u64 t196, .int .u64 t197] 25 (0, 0)) (by (with_reducible repeat (first | refine blk_drewN ?_ _ | refine blk_drew ?_ | refine blk_alloc ?_ _)); exact BK202.out)) : gb202 ≠ gb224)); have n14_ := Aside0.mk ((by rw [hg]; exact Nat.ne_of_gt (blk_lt (g := gb202) (o := .cells #[.int .i64 t185, .int .i64 t186, .int .i64 t187, .int .i64 t188, .int .i64 t189, .int .i64 t190, .int .u32 t191, .int .u32 t192, .int .u32 t193, .int .u64 t194, .int .u64 t195, .int .u64 t196, .int .u64 t197] 25 (0, 0)) (by (with_reducible repeat (first | refine blk_drewN ?_ _ | refine blk_drew ?_ | refine blk_alloc ?_ _)); exact BK202.out)) : gb224 ≠ gb202)); clear HO_2; clear HO184; clear HO200; clear HO222; clear BK165; clear BK202; clear HR206; clear HB; have HO_2 := n0_; have HO184 := n1_; have HO200 := n2_; have HO222 := n3_; have BK165 := n4_; have BK202 := n5_; have HR206 := n6_; have HB := n7_; have BK224 := n8_; have GW224 := n9_; have GE224 := n10_; have NB165_224 := n11_; have NB224_165 := n12_; have NB202_224 := n13_; have NB224_202 := n14_; clear n0_ n1_ n2_ n3_ n4_ n5_ n6_ n7_ n8_ n9_ n10_ n11_ n12_ n13_ n14_; clear hb hbox hg; have hnb76 := NB224_165.out; have hnc76 := NB165_224.out; have hnb77 := NB224_202.out; have hnc77 := NB202_224.out; have hcz78_0 : w75.cell? ⟨gb224, 0, none⟩ = some (.int .i64 0) := (blk_cell BK224.out 0).trans rfl; have hcz78_1 : w75.cell? ⟨gb224, 1, none⟩ = some (.int .i64 0) := (blk_cell BK224.out 1).trans rfl; have hcz78_2 : w75.cell? ⟨gb224, 2, none⟩ = some (.int .i64 0) := (blk_cell BK224.out 2).trans rfl; have hcz78_3 : w75.cell? ⟨gb224, 3, none⟩ = some (.int .i64 0) := (blk_cell BK224.out 3).trans rfl; have hcz78_4 : w75.cell? ⟨gb224, 4, none⟩ = some (.int .i64 0) := (blk_cell BK224.out 4).trans rfl; have hcz78_5 : w75.cell? ⟨gb224, 5, none⟩ = some (.int .i64 0) := (blk_cell BK224.out 5).trans rfl; have hcz78_6 : w75.cell? ⟨gb224, 6, none⟩ = some (.int .u32 0) := (blk_cell BK224.out 6).trans rfl; have hcz78_7 : w75.cell? ⟨gb224, 7, none⟩ = some (.int .u32 0) := (blk_cell BK224.out 7).trans rfl; have hcz78_8 : w75.cell? ⟨gb224, 8, none⟩ = some (.int .u32 0) := (blk_cell BK224.out 8).trans rfl; have hcz78_9 : w75.cell? ⟨gb224, 9, none⟩ = some (.int .u64 0) := (blk_cell BK224.out 9).trans rfl; have hcz78_10 : w75.cell? ⟨gb224, 10, none⟩ = some (.int .u64 0) := (blk_cell BK224.out 10).trans rfl; have hcz78_11 : w75.cell? ⟨gb224, 11, none⟩ = some (.int .u64 0) := (blk_cell BK224.out 11).trans rfl; have hcz78_12 : w75.cell? ⟨gb224, 12, none⟩ = some (.int .u64 0) := (blk_cell BK224.out 12).trans rfl; have hfz78_0 := blk_frozen BK224.out 0; have hfz78_1 := blk_frozen BK224.out 1; have hfz78_2 := blk_frozen BK224.out 2; have hfz78_3 := blk_frozen BK224.out 3; have hfz78_4 := blk_frozen BK224.out 4; have hfz78_5 := blk_frozen BK224.out 5; have hfz78_6 := blk_frozen BK224.out 6; have hfz78_7 := blk_frozen BK224.out 7; have hfz78_8 := blk_frozen BK224.out 8; have hfz78_9 := blk_frozen BK224.out 9; have hfz78_10 := blk_frozen BK224.out 10; have hfz78_11 := blk_frozen BK224.out 11; have hfz78_12 := blk_frozen BK224.out 12) | ((with_reducible refine gate_callee (f := 25) rfl ?_); refine goesL_ (some 88) rfl rfl Try.func25 (by kernel_rfl) rfl #[.string (⟨#[82, 65, 84, 69]⟩ : ByteArray)] rfl (by (try simp only [List.map_toArray, List.map_cons, List.map_nil]); first | done | rfl | (simp only [List.length_drop, List.length_take]; rfl)) ?_; (with_reducible refine (ntpmsg_Code.calls k2 (⟨#[82, 65, 84, 69]⟩ : ByteArray) t225 t226 _ A46.out).mono ?_); rintro e w' ⟨rfl, ⟨nd, rfl⟩⟩; refine ⟨_, rfl, ?_⟩) | ((with_reducible refine gate_callee (f := 26) rfl ?_); refine goesL_ (some 93) rfl rfl Try.func26 (by kernel_rfl) rfl #[.agg #[.int .i64 0, .int .i64 0, .int .i64 0, .int .i64 0, .int .i64 0, .int .i64 0, .int .u32 0, .int .u32 0, .int .u32 1380013125, .int .u64 0, .int .u64 0, .int .u64 0, .int .u64 0]] rfl (by (try simp only [List.map_toArray, List.map_cons, List.map_nil]); first | done | rfl | (simp only [List.length_drop, List.length_take]; rfl)) ?_; (with_reducible refine (ntpmsg_Kiss.calls k2 0 0 0 0 0 0 0 0 1380013125 0 0 0 0 t227 true _ A47.out).mono ?_); rintro e w79 ⟨rfl, hb⟩; refine ⟨_, rfl, ?_⟩; have n0_ := Aside0.mk (Kd.R_below (by (with_reducible repeat (first | apply Kd.R_alloc | apply Kd.R_drewN | apply Kd.R_drew)); exact (Kd.R_mono (Kd.R_far (p := ⟨gb224, 12, none⟩) (Kd.R_far (p := ⟨gb224, 11, none⟩) (Kd.R_far (p := ⟨gb224, 10, none⟩) (Kd.R_far (p := ⟨gb224, 9, none⟩) (Kd.R_far (p := ⟨gb224, 8, none⟩) (Kd.R_far (p := ⟨gb224, 7, none⟩) (Kd.R_far (p := ⟨gb224, 6, none⟩) (Kd.R_far (p := ⟨gb224, 5, none⟩) (Kd.R_far (p := ⟨gb224, 4, none⟩) (Kd.R_far (p := ⟨gb224, 3, none⟩) (Kd.R_far (p := ⟨gb224, 2, none⟩) (Kd.R_far (p := ⟨gb224, 1, none⟩) (Kd.R_far (p := ⟨gb224, 0, none⟩) (Kd.R_types HO_2.out BK224.out (by decide)) (fun _ hk => hk.2) (.int .i64 t207)) (fun _ hk => hk.2) (.int .i64 t208)) (fun _ hk => hk.2) (.int .i64 t209)) (fun _ hk => hk.2) (.int .i64 t210)) (fun _ hk => hk.2) (.int .i64 t211)) (fun _ hk => hk.2) (.int .i64 t212)) (fun _ hk => hk.2) (.int .u32 t213)) (fun _ hk => hk.2) (.int .u32 t214)) (fun _ hk => hk.2) (.int .u32 t215)) (fun _ hk => hk.2) (.int .u64 t216)) (fun _ hk => hk.2) (.int .u64 t217)) (fun _ hk => hk.2) (.int .u64 t218)) (fun _ hk => hk.2) (.int .u64 t219)) (fun _ h_ => h_.1))) hb); have n1_ := Aside0.mk (Kd.R_below (by (with_reducible repeat (first | apply Kd.R_alloc | apply Kd.R_drewN | apply Kd.R_drew)); exact (Kd.R_mono (Kd.R_far (p := ⟨gb224, 12, none⟩) (Kd.R_far (p := ⟨gb224, 11, none⟩) (Kd.R_far (p := ⟨gb224, 10, none⟩) (Kd.R_far (p := ⟨gb224, 9, none⟩) (Kd.R_far (p := ⟨gb224, 8, none⟩) (Kd.R_far (p := ⟨gb224, 7, none⟩) (Kd.R_far (p := ⟨gb224, 6, none⟩) (Kd.R_far (p := ⟨gb224, 5, none⟩) (Kd.R_far (p := ⟨gb224, 4, none⟩) (Kd.R_far (p := ⟨gb224, 3, none⟩) (Kd.R_far (p := ⟨gb224, 2, none⟩) (Kd.R_far (p := ⟨gb224, 1, none⟩) (Kd.R_far (p := ⟨gb224, 0, none⟩) (Kd.R_types HO184.out BK224.out (by decide)) (fun _ hk => hk.2) (.int .i64 t207)) (fun _ hk => hk.2) (.int .i64 t208)) (fun _ hk => hk.2) (.int .i64 t209)) (fun _ hk => hk.2) (.int .i64 t210)) (fun _ hk => hk.2) (.int .i64 t211)) (fun _ hk => hk.2) (.int .i64 t212)) (fun _ hk => hk.2) (.int .u32 t213)) (fun _ hk => hk.2) (.int .u32 t214)) (fun _ hk => hk.2) (.int .u32 t215)) (fun _ hk => hk.2) (.int .u64 t216)) (fun _ hk => hk.2) (.int .u64 t217)) (fun _ hk => hk.2) (.int .u64 t218)) (fun _ hk => hk.2) (.int .u64 t219)) (fun _ h_ => h_.1))) hb); have n2_ := Aside0.mk (Kd.R_below (by (with_reducible repeat (first | apply Kd.R_alloc | apply Kd.R_drewN | apply Kd.R_drew)); exact (Kd.R_mono (Kd.R_far (p := ⟨gb224, 12, none⟩) (Kd.R_far (p := ⟨gb224, 11, none⟩) (Kd.R_far (p := ⟨gb224, 10, none⟩) (Kd.R_far (p := ⟨gb224, 9, none⟩) (Kd.R_far (p := ⟨gb224, 8, none⟩) (Kd.R_far (p := ⟨gb224, 7, none⟩) (Kd.R_far (p := ⟨gb224, 6, none⟩) (Kd.R_far (p := ⟨gb224, 5, none⟩) (Kd.R_far (p := ⟨gb224, 4, none⟩) (Kd.R_far (p := ⟨gb224, 3, none⟩) (Kd.R_far (p := ⟨gb224, 2, none⟩) (Kd.R_far (p := ⟨gb224, 1, none⟩) (Kd.R_far (p := ⟨gb224, 0, none⟩) (Kd.R_types HO200.out BK224.out (by decide)) (fun _ hk => hk.2) (.int .i64 t207)) (fun _ hk => hk.2) (.int .i64 t208)) (fun _ hk => hk.2) (.int .i64 t209)) (fun _ hk => hk.2) (.int .i64 t210)) (fun _ hk => hk.2) (.int .i64 t211)) (fun _ hk => hk.2) (.int .i64 t212)) (fun _ hk => hk.2) (.int .u32 t213)) (fun _ hk => hk.2) (.int .u32 t214)) (fun _ hk => hk.2) (.int .u32 t215)) (fun _ hk => hk.2) (.int .u64 t216)) (fun _ hk => hk.2) (.int .u64 t217)) (fun _ hk => hk.2) (.int .u64 t218)) (fun _ hk => hk.2) (.int .u64 t219)) (fun _ h_ => h_.1))) hb); have n3_ := Aside0.mk (Kd.R_below (by (with_reducible repeat (first | apply Kd.R_alloc | apply Kd.R_drewN | apply Kd.R_drew)); exact (Kd.R_mono (Kd.R_far (p := ⟨gb224, 12, none⟩) (Kd.R_far (p := ⟨gb224, 11, none⟩) (Kd.R_far (p := ⟨gb224, 10, none⟩) (Kd.R_far (p := ⟨gb224, 9, none⟩) (Kd.R_far (p := ⟨gb224, 8, none⟩) (Kd.R_far (p := ⟨gb224, 7, none⟩) (Kd.R_far (p := ⟨gb224, 6, none⟩) (Kd.R_far (p := ⟨gb224, 5, none⟩) (Kd.R_far (p := ⟨gb224, 4, none⟩) (Kd.R_far (p := ⟨gb224, 3, none⟩) (Kd.R_far (p := ⟨gb224, 2, none⟩) (Kd.R_far (p := ⟨gb224, 1, none⟩) (Kd.R_far (p := ⟨gb224, 0, none⟩) (Kd.R_types HO222.out BK224.out (by decide)) (fun _ hk => hk.2) (.int .i64 t207)) (fun _ hk => hk.2) (.int .i64 t208)) (fun _ hk => hk.2) (.int .i64 t209)) (fun _ hk => hk.2) (.int .i64 t210)) (fun _ hk => hk.2) (.int .i64 t211)) (fun _ hk => hk.2) (.int .i64 t212)) (fun _ hk => hk.2) (.int .u32 t213)) (fun _ hk => hk.2) (.int .u32 t214)) (fun _ hk => hk.2) (.int .u32 t215)) (fun _ hk => hk.2) (.int .u64 t216)) (fun _ hk => hk.2) (.int .u64 t217)) (fun _ hk => hk.2) (.int .u64 t218)) (fun _ hk => hk.2) (.int .u64 t219)) (fun _ h_ => h_.1))) hb); have n4_ := Aside0.mk (blk_below (g := gb165) (o := .cells #[.int .i64 0, .int .i64 4, .int .i64 3, .int .i64 0, .int .i64 6, .int .i64 (-20), .int .u32 0, .int .u32 0, .int .u32 0, .int .u64 0, .int .u64 0, .int .u64 0, .int .u64 72623859790382856] 25 (0, 0)) (by (with_reducible repeat (first | refine blk_drewN ?_ _ | refine blk_drew ?_ | refine blk_alloc ?_ _)); refine blk_far ?_ NB165_224.out _; (with_reducible repeat (first | refine blk_drewN ?_ _ | refine blk_drew ?_ | refine blk_alloc ?_ _)); refine blk_far ?_ NB165_224.out _; (with_reducible repeat (first | refine blk_drewN ?_ _ | refine blk_drew ?_ | refine blk_alloc ?_ _)); refine blk_far ?_ NB165_224.out _; (with_reducible repeat (first | refine blk_drewN ?_ _ | refine blk_drew ?_ | refine blk_alloc ?_ _)); refine blk_far ?_ NB165_224.out _; (with_reducible repeat (first | refine blk_drewN ?_ _ | refine blk_drew ?_ | refine blk_alloc ?_ _)); refine blk_far ?_ NB165_224.out _; (with_reducible repeat (first | refine blk_drewN ?_ _ | refine blk_drew ?_ | refine blk_alloc ?_ _)); refine blk_far ?_ NB165_224.out _; (with_reducible repeat (first | refine blk_drewN ?_ _ | refine blk_drew ?_ | refine blk_alloc ?_ _)); refine blk_far ?_ NB165_224.out _; (with_reducible repeat (first | refine blk_drewN ?_ _ | refine blk_drew ?_ | refine blk_alloc ?_ _)); refine blk_far ?_ NB165_224.out _; (with_reducible repeat (first | refine blk_drewN ?_ _ | refine blk_drew ?_ | refine blk_alloc ?_ _)); refine blk_far ?_ NB165_224.out _; (with_reducible repeat (first | refine blk_drewN ?_ _ | refine blk_drew ?_ | refine blk_alloc ?_ _)); refine blk_far ?_ NB165_224.out _; (with_reducible repeat (first | refine blk_drewN ?_ _ | refine blk_drew ?_ | refine blk_alloc ?_ _)); refine blk_far ?_ NB165_224.out _; (with_reducible repeat (first | refine blk_drewN ?_ _ | refine blk_drew ?_ | refine blk_alloc ?_ _)); refine blk_far ?_ NB165_224.out _; (with_reducible repeat (first | refine blk_drewN ?_ _ | refine blk_drew ?_ | refine blk_alloc ?_ _)); refine blk_far ?_ NB165_224.out _; (with_reducible repeat (first | refine blk_drewN ?_ _ | refine blk_drew ?_ | refine blk_alloc ?_ _)); exact BK165.out) hb); have n5_ := Aside0.mk (blk_below (g := gb202) (o := .cells #[.int .i64 t185, .int .i64 t186, .int .i64 t187, .int .i64 t188, .int .i64 t189, .int .i64 t190, .int .u32 t191, .int .u32 t192, .int .u32 t193, .int .u64 t194, .int .u64 t195, .int .u64 t196, .int .u64 t197] 25 (0, 0)) (by (with_reducible repeat (first | refine blk_drewN ?_ _ | refine blk_drew ?_ | refine blk_alloc ?_ _)); refine blk_far ?_ NB202_224.out _; (with_reducible repeat (first | refine blk_drewN ?_ _ | refine blk_drew ?_ | refine blk_alloc ?_ _)); refine blk_far ?_ NB202_224.out _; (with_reducible repeat (first | refine blk_drewN ?_ _ | refine blk_drew ?_ | refine blk_alloc ?_ _)); refine blk_far ?_ NB202_224.out _; (with_reducible repeat (first | refine blk_drewN ?_ _ | refine blk_drew ?_ | refine blk_alloc ?_ _)); refine blk_far ?_ NB202_224.out _; (with_reducible repeat (first | refine blk_drewN ?_ _ | refine blk_drew ?_ | refine blk_alloc ?_ _)); refine blk_far ?_ NB202_224.out _; (with_reducible repeat (first | refine blk_drewN ?_ _ | refine blk_drew ?_ | refine blk_alloc ?_ _)); refine blk_far ?_ NB202_224.out _; (with_reducible repeat (first | refine blk_drewN ?_ _ | refine blk_drew ?_ | refine blk_alloc ?_ _)); refine blk_far ?_ NB202_224.out _; (with_reducible repeat (first | refine blk_drewN ?_ _ | refine blk_drew ?_ | refine blk_alloc ?_ _)); refine blk_far ?_ NB202_224.out _; (with_reducible repeat (first | refine blk_drewN ?_ _ | refine blk_drew ?_ | refine blk_alloc ?_ _)); refine blk_far ?_ NB202_224.out _; (with_reducible repeat (first | refine blk_drewN ?_ _ | refine blk_drew ?_ | refine blk_alloc ?_ _)); refine blk_far ?_ NB202_224.out _; (with_reducible repeat (first | refine blk_drewN ?_ _ | refine blk_drew ?_ | refine blk_alloc ?_ _)); refine blk_far ?_ NB202_224.out _; (with_reducible repeat (first | refine blk_drewN ?_ _ | refine blk_drew ?_ | refine blk_alloc ?_ _)); refine blk_far ?_ NB202_224.out _; (with_reducible repeat (first | refine blk_drewN ?_ _ | refine blk_drew ?_ | refine blk_alloc ?_ _)); refine blk_far ?_ NB202_224.out _; (with_reducible repeat (first | refine blk_drewN ?_ _ | refine blk_drew ?_ | refine blk_alloc ?_ _)); exact BK202.out) hb); have n6_ := Aside0.mk (blk_below (g := gb224) (o := .cells #[.int .i64 t207, .int .i64 t208, .int .i64 t209, .int .i64 t210, .int .i64 t211, .int .i64 t212, .int .u32 t213, .int .u32 t214, .int .u32 t215, .int .u64 t216, .int .u64 t217, .int .u64 t218, .int .u64 t219] 25 (0, 0)) (by (with_reducible repeat (first | refine blk_drewN ?_ _ | refine blk_drew ?_ | refine blk_alloc ?_ _)); refine blk_put (cs := #[.int .i64 t207, .int .i64 t208, .int .i64 t209, .int .i64 t210, .int .i64 t211, .int .i64 t212, .int .u32 t213, .int .u32 t214, .int .u32 t215, .int .u64 t216, .int .u64 t217, .int .u64 t218, .int .u64 0]) ?_ 12 _ rfl; (with_reducible repeat (first | refine blk_drewN ?_ _ | refine blk_drew ?_ | refine blk_alloc ?_ _)); refine blk_put (cs := #[.int .i64 t207, .int .i64 t208, .int .i64 t209, .int .i64 t210, .int .i64 t211, .int .i64 t212, .int .u32 t213, .int .u32 t214, .int .u32 t215, .int .u64 t216, .int .u64 t217, .int .u64 0, .int .u64 0]) ?_ 11 _ rfl; (with_reducible repeat (first | refine blk_drewN ?_ _ | refine blk_drew ?_ | refine blk_alloc ?_ _)); refine blk_put (cs := #[.int .i64 t207, .int .i64 t208, .int .i64 t209, .int .i64 t210, .int .i64 t211, .int .i64 t212, .int .u32 t213, .int .u32 t214, .int .u32 t215, .int .u64 t216, .int .u64 0, .int .u64 0, .int .u64 0]) ?_ 10 _ rfl; (with_reducible repeat (first | refine blk_drewN ?_ _ | refine blk_drew ?_ | refine blk_alloc ?_ _)); refine blk_put (cs := #[.int .i64 t207, .int .i64 t208, .int .i64 t209, .int .i64 t210, .int .i64 t211, .int .i64 t212, .int .u32 t213, .int .u32 t214, .int .u32 t215, .int .u64 0, .int .u64 0, .int .u64 0, .int .u64 0]) ?_ 9 _ rfl; (with_reducible repeat (first | refine blk_drewN ?_ _ | refine blk_drew ?_ | refine blk_alloc ?_ _)); refine blk_put (cs := #[.int .i64 t207, .int .i64 t208, .int .i64 t209, .int .i64 t210, .int .i64 t211, .int .i64 t212, .int .u32 t213, .int .u32 t214, .int .u32 0, .int .u64 0, .int .u64 0, .int .u64 0, .int .u64 0]) ?_ 8 _ rfl; (with_reducible repeat (first | refine blk_drewN ?_ _ | refine blk_drew ?_ | refine blk_alloc ?_ _)); refine blk_put (cs := #[.int .i64 t207, .int .i64 t208, .int .i64 t209, .int .i64 t210, .int .i64 t211, .int .i64 t212, .int .u32 t213, .int .u32 0, .int .u32 0, .int .u64 0, .int .u64 0, .int .u64 0, .int .u64 0]) ?_ 7 _ rfl; (with_reducible repeat (first | refine blk_drewN ?_ _ | refine blk_drew ?_ | refine blk_alloc ?_ _)); refine blk_put (cs := #[.int .i64 t207, .int .i64 t208, .int .i64 t209, .int .i64 t210, .int .i64 t211, .int .i64 t212, .int .u32 0, .int .u32 0, .int .u32 0, .int .u64 0, .int .u64 0, .int .u64 0, .int .u64 0]) ?_ 6 _ rfl; (with_reducible repeat (first | refine blk_drewN ?_ _ | refine blk_drew ?_ | refine blk_alloc ?_ _)); refine blk_put (cs := #[.int .i64 t207, .int .i64 t208, .int .i64 t209, .int .i64 t210, .int .i64 t211, .int .i64 0, .int .u32 0, .int .u32 0, .int .u32 0, .int .u64 0, .int .u64 0, .int .u64 0, .int .u64 0]) ?_ 5 _ rfl; (with_reducible repeat (first | refine blk_drewN ?_ _ | refine blk_drew ?_ | refine blk_alloc ?_ _)); refine blk_put (cs := #[.int .i64 t207, .int .i64 t208, .int .i64 t209, .int .i64 t210, .int .i64 0, .int .i64 0, .int .u32 0, .int .u32 0, .int .u32 0, .int .u64 0, .int .u64 0, .int .u64 0, .int .u64 0]) ?_ 4 _ rfl; (with_reducible repeat (first | refine blk_drewN ?_ _ | refine blk_drew ?_ | refine blk_alloc ?_ _)); refine blk_put (cs := #[.int .i64 t207, .int .i64 t208, .int .i64 t209, .int .i64 0, .int .i64 0, .int .i64 0, .int .u32 0, .int .u32 0, .int .u32 0, .int .u64 0, .int .u64 0, .int .u64 0, .int .u64 0]) ?_ 3 _ rfl; (with_reducible repeat (first | refine blk_drewN ?_ _ | refine blk_drew ?_ | refine blk_alloc ?_ _)); refine blk_put (cs := #[.int .i64 t207, .int .i64 t208, .int .i64 0, .int .i64 0, .int .i64 0, .int .i64 0, .int .u32 0, .int .u32 0, .int .u32 0, .int .u64 0, .int .u64 0, .int .u64 0, .int .u64 0]) ?_ 2 _ rfl; (with_reducible repeat (first | refine blk_drewN ?_ _ | refine blk_drew ?_ | refine blk_alloc ?_ _)); refine blk_put (cs := #[.int .i64 t207, .int .i64 0, .int .i64 0, .int .i64 0, .int .i64 0, .int .i64 0, .int .u32 0, .int .u32 0, .int .u32 0, .int .u64 0, .int .u64 0, .int .u64 0, .int .u64 0]) ?_ 1 _ rfl; (with_reducible repeat (first | refine blk_drewN ?_ _ | refine blk_drew ?_ | refine blk_alloc ?_ _)); refine blk_put (cs := #[.int .i64 0, .int .i64 0, .int .i64 0, .int .i64 0, .int .i64 0, .int .i64 0, .int .u32 0, .int .u32 0, .int .u32 0, .int .u64 0, .int .u64 0, .int .u64 0, .int .u64 0]) ?_ 0 _ rfl; (with_reducible repeat (first | refine blk_drewN ?_ _ | refine blk_drew ?_ | refine blk_alloc ?_ _)); exact BK224.out) hb); have n7_ := Aside0.mk (below_step (by repeat (first | (with_reducible first | exact HB.out | apply below_alloc | apply pw_below_drewN | apply below_drew1 | refine below_set ?_ GE165.out | refine below_set ?_ GE202.out | refine below_set ?_ GE224.out) | exact HB.out)) hb); clear HO_2; clear HO184; clear HO200; clear HO222; clear BK165; clear BK202; clear BK224; clear HB; have HO_2 := n0_; have HO184 := n1_; have HO200 := n2_; have HO222 := n3_; have BK165 := n4_; have BK202 := n5_; have BK224 := n6_; have HB := n7_; clear n0_ n1_ n2_ n3_ n4_ n5_ n6_ n7_; (try clear hb); (try clear hb2); (try clear hk); (try clear hi); have hcz80_0 : w79.cell? ⟨gb202, 0, none⟩ = some (.int .i64 t185) := (blk_cell BK202.out 0).trans rfl; have hcz80_1 : w79.cell? ⟨gb202, 1, none⟩ = some (.int .i64 t186) := (blk_cell BK202.out 1).trans rfl; have hcz80_2 : w79.cell? ⟨gb202, 2, none⟩ = some (.int .i64 t187) := (blk_cell BK202.out 2).trans rfl; have hcz80_3 : w79.cell? ⟨gb202, 3, none⟩ = some (.int .i64 t188) := (blk_cell BK202.out 3).trans rfl; have hcz80_4 : w79.cell? ⟨gb202, 4, none⟩ = some (.int .i64 t189) := (blk_cell BK202.out 4).trans rfl; have hcz80_5 : w79.cell? ⟨gb202, 5, none⟩ = some (.int .i64 t190) := (blk_cell BK202.out 5).trans rfl; have hcz80_6 : w79.cell? ⟨gb202, 6, none⟩ = some (.int .u32 t191) := (blk_cell BK202.out 6).trans rfl; have hcz80_7 : w79.cell? ⟨gb202, 7, none⟩ = some (.int .u32 t192) := (blk_cell BK202.out 7).trans rfl; have hcz80_8 : w79.cell? ⟨gb202, 8, none⟩ = some (.int .u32 t193) := (blk_cell BK202.out 8).trans rfl; have hcz80_9 : w79.cell? ⟨gb202, 9, none⟩ = some (.int .u64 t194) := (blk_cell BK202.out 9).trans rfl; have hcz80_10 : w79.cell? ⟨gb202, 10, none⟩ = some (.int .u64 t195) := (blk_cell BK202.out 10).trans rfl; have hcz80_11 : w79.cell? ⟨gb202, 11, none⟩ = some (.int .u64 t196) := (blk_cell BK202.out 11).trans rfl; have hcz80_12 : w79.cell? ⟨gb202, 12, none⟩ = some (.int .u64 t197) := (blk_cell BK202.out 12).trans rfl; have hfz80_0 := blk_frozen BK202.out 0; have hfz80_1 := blk_frozen BK202.out 1; have hfz80_2 := blk_frozen BK202.out 2; have hfz80_3 := blk_frozen BK202.out 3; have hfz80_4 := blk_frozen BK202.out 4; have hfz80_5 := blk_frozen BK202.out 5; have hfz80_6 := blk_frozen BK202.out 6; have hfz80_7 := blk_frozen BK202.out 7; have hfz80_8 := blk_frozen BK202.out 8; have hfz80_9 := blk_frozen BK202.out 9; have hfz80_10 := blk_frozen BK202.out 10; have hfz80_11 := blk_frozen BK202.out 11; have hfz80_12 := blk_frozen BK202.out 12; have hcz81_0 : w79.cell? ⟨gb165, 0, none⟩ = some (.int .i64 0) := (blk_cell BK165.out 0).trans rfl; have hcz81_1 : w79.cell? ⟨gb165, 1, none⟩ = some (.int .i64 4) := (blk_cell BK165.out 1).trans rfl; have hcz81_2 : w79.cell? ⟨gb165, 2, none⟩ = some (.int .i64 3) := (blk_cell BK165.out 2).trans rfl; have hcz81_3 : w79.cell? ⟨gb165, 3, none⟩ = some (.int .i64 0) := (blk_cell BK165.out 3).trans rfl; have hcz81_4 : w79.cell? ⟨gb165, 4, none⟩ = some (.int .i64 6) := (blk_cell BK165.out 4).trans rfl; have hcz81_5 : w79.cell? ⟨gb165, 5, none⟩ = some (.int .i64 (-20)) := (blk_cell BK165.out 5).trans rfl; have hcz81_6 : w79.cell? ⟨gb165, 6, none⟩ = some (.int .u32 0) := (blk_cell BK165.out 6).trans rfl; have hcz81_7 : w79.cell? ⟨gb165, 7, none⟩ = some (.int .u32 0) := (blk_cell BK165.out 7).trans rfl; have hcz81_8 : w79.cell? ⟨gb165, 8, none⟩ = some (.int .u32 0) := (blk_cell BK165.out 8).trans rfl; have hcz81_9 : w79.cell? ⟨gb165, 9, none⟩ = some (.int .u64 0) := (blk_cell BK165.out 9).trans rfl; have hcz81_10 : w79.cell? ⟨gb165, 10, none⟩ = some (.int .u64 0) := (blk_cell BK165.out 10).trans rfl; have hcz81_11 : w79.cell? ⟨gb165, 11, none⟩ = some (.int .u64 0) := (blk_cell BK165.out 11).trans rfl; have hcz81_12 : w79.cell? ⟨gb165, 12, none⟩ = some (.int .u64 72623859790382856) := (blk_cell BK165.out 12).trans rfl; have hfz81_0 := blk_frozen BK165.out 0; have hfz81_1 := blk_frozen BK165.out 1; have hfz81_2 := blk_frozen BK165.out 2; have hfz81_3 := blk_frozen BK165.out 3; have hfz81_4 := blk_frozen BK165.out 4; have hfz81_5 := blk_frozen BK165.out 5; have hfz81_6 := blk_frozen BK165.out 6; have hfz81_7 := blk_frozen BK165.out 7; have hfz81_8 := blk_frozen BK165.out 8; have hfz81_9 := blk_frozen BK165.out 9; have hfz81_10 := blk_frozen BK165.out 10; have hfz81_11 := blk_frozen BK165.out 11; have hfz81_12 := blk_frozen BK165.out 12; obtain ⟨Ao82, co82, eo82⟩ := Kd.R_slice HO200.out; subst eo82; have p229 : 0 ≤ (0 : Int) := (by omega); have q229 : 0 < (t198.length : Int) := of_decide_eq_true (by first | (with_reducible assumption) | assumption); obtain ⟨ad229, e229, hx229_0⟩ := Kd.at_int (Kd.R_reads' HO200.out).2.2 0 p229 q229; cases e229; have qi229 : (0 < t198.length) = True := eq_true (by omega); (try rw [show ((0 : Int)).toNat = 0 from rfl] at hx229_0); (try rw [Addr.add_zero'] at hx229_0); replace p229 := eq_true p229; replace q229 := eq_true q229) | (go_at_call 27; (with_reducible refine (ntpmsg_Synced.calls 0 4 3 0 6 (-20) 0 0 0 0 0 0 72623859790382856 false _ A58.out).mono ?_); rintro e w83 ⟨rfl, hb⟩; have n0_ := Aside0.mk (Kd.R_below (by (with_reducible repeat (first | apply Kd.R_alloc | apply Kd.R_drewN | apply Kd.R_drew)); exact HO_2.out) hb); have n1_ := Aside0.mk (Kd.R_below (by (with_reducible repeat (first | apply Kd.R_alloc | apply Kd.R_drewN | apply Kd.R_drew)); exact HO184.out) hb); have n2_ := Aside0.mk (Kd.R_below (by (with_reducible repeat (first | apply Kd.R_alloc | apply Kd.R_drewN | apply Kd.R_drew)); exact HO200.out) hb); have n3_ := Aside0.mk (Kd.R_below (by (with_reducible repeat (first | apply Kd.R_alloc | apply Kd.R_drewN | apply Kd.R_drew)); exact HO222.out) hb); have n4_ := Aside0.mk (blk_below (g := gb165) (o := .cells #[.int .i64 0, .int .i64 4, .int .i64 3, .int .i64 0, .int .i64 6, .int .i64 (-20), .int .u32 0, .int .u32 0, .int .u32 0, .int .u64 0, .int .u64 0, .int .u64 0, .int .u64 72623859790382856] 25 (0, 0)) (by (with_reducible repeat (first | refine blk_drewN ?_ _ | refine blk_drew ?_ | refine blk_alloc ?_ _)); exact BK165.out) hb); have n5_ := Aside0.mk (blk_below (g := gb202) (o := .cells #[.int .i64 t185, .int .i64 t186, .int .i64 t187, .int .i64 t188, .int .i64 t189, .int .i64 t190, .int .u32 t191, .int .u32 t192, .int .u32 t193, .int .u64 t194, .int .u64 t195, .int .u64 t196, .int .u64 t197] 25 (0, 0)) (by (with_reducible repeat (first | refine blk_drewN ?_ _ | refine blk_drew ?_ | refine blk_alloc ?_ _)); exact BK202.out) hb); have n6_ := Aside0.mk (blk_below (g := gb224) (o := .cells #[.int .i64 t207, .int .i64 t208, .int .i64 t209, .int .i64 t210, .int .i64 t211, .int .i64 t212, .int .u32 t213, .int .u32 t214, .int .u32 t215, .int .u64 t216, .int .u64 t217, .int .u64 t218, .int .u64 t219] 25 (0, 0)) (by (with_reducible repeat (first | refine blk_drewN ?_ _ | refine blk_drew ?_ | refine blk_alloc ?_ _)); exact BK224.out) hb); have n7_ := Aside0.mk (below_step (by repeat (first | (with_reducible first | exact HB.out | apply below_alloc | apply pw_below_drewN | apply below_drew1 | refine below_set ?_ GE165.out | refine below_set ?_ GE202.out | refine below_set ?_ GE224.out) | exact HB.out)) hb); clear HO_2; clear HO184; clear HO200; clear HO222; clear BK165; clear BK202; clear BK224; clear HB; have HO_2 := n0_; have HO184 := n1_; have HO200 := n2_; have HO222 := n3_; have BK165 := n4_; have BK202 := n5_; have BK224 := n6_; have HB := n7_; clear n0_ n1_ n2_ n3_ n4_ n5_ n6_ n7_; (try clear hb); (try clear hb2); (try clear hk); (try clear hi)) | (go_at_call 27; (with_reducible refine (ntpmsg_Synced.calls 0 0 0 1 0 0 0 0 0 0 0 0 0 true _ A60.out).mono ?_); rintro e w84 ⟨rfl, hb⟩; have n0_ := Aside0.mk (Kd.R_below (by (with_reducible repeat (first | apply Kd.R_alloc | apply Kd.R_drewN | apply Kd.R_drew)); exact HO_2.out) hb); have n1_ := Aside0.mk (Kd.R_below (by (with_reducible repeat (first | apply Kd.R_alloc | apply Kd.R_drewN | apply Kd.R_drew)); exact HO184.out) hb); have n2_ := Aside0.mk (Kd.R_below (by (with_reducible repeat (first | apply Kd.R_alloc | apply Kd.R_drewN | apply Kd.R_drew)); exact HO200.out) hb); have n3_ := Aside0.mk (Kd.R_below (by (with_reducible repeat (first | apply Kd.R_alloc | apply Kd.R_drewN | apply Kd.R_drew)); exact HO222.out) hb); have n4_ := Aside0.mk (blk_below (g := gb165) (o := .cells #[.int .i64 0, .int .i64 4, .int .i64 3, .int .i64 0, .int .i64 6, .int .i64 (-20), .int .u32 0, .int .u32 0, .int .u32 0, .int .u64 0, .int .u64 0, .int .u64 0, .int .u64 72623859790382856] 25 (0, 0)) (by (with_reducible repeat (first | refine blk_drewN ?_ _ | refine blk_drew ?_ | refine blk_alloc ?_ _)); exact BK165.out) hb); have n5_ := Aside0.mk (blk_below (g := gb202) (o := .cells #[.int .i64 t185, .int .i64 t186, .int .i64 t187, .int .i64 t188, .int .i64 t189, .int .i64 t190, .int .u32 t191, .int .u32 t192, .int .u32 t193, .int .u64 t194, .int .u64 t195, .int .u64 t196, .int .u64 t197] 25 (0, 0)) (by (with_reducible repeat (first | refine blk_drewN ?_ _ | refine blk_drew ?_ | refine blk_alloc ?_ _)); exact BK202.out) hb); have n6_ := Aside0.mk (blk_below (g := gb224) (o := .cells #[.int .i64 t207, .int .i64 t208, .int .i64 t209, .int .i64 t210, .int .i64 t211, .int .i64 t212, .int .u32 t213, .int .u32 t214, .int .u32 t215, .int .u64 t216, .int .u64 t217, .int .u64 t218, .int .u64 t219] 25 (0, 0)) (by (with_reducible repeat (first | refine blk_drewN ?_ _ | refine blk_drew ?_ | refine blk_alloc ?_ _)); exact BK224.out) hb); have n7_ := Aside0.mk (below_step (by repeat (first | (with_reducible first | exact HB.out | apply below_alloc | apply pw_below_drewN | apply below_drew1 | refine below_set ?_ GE165.out | refine below_set ?_ GE202.out | refine below_set ?_ GE224.out) | exact HB.out)) hb); clear HO_2; clear HO184; clear HO200; clear HO222; clear BK165; clear BK202; clear BK224; clear HB; have HO_2 := n0_; have HO184 := n1_; have HO200 := n2_; have HO222 := n3_; have BK165 := n4_; have BK202 := n5_; have BK224 := n6_; have HB := n7_; clear n0_ n1_ n2_ n3_ n4_ n5_ n6_ n7_; (try clear hb); (try clear hb2); (try clear hk); (try clear hi)))
                                            go_ret
                                            exact ⟨by first | rfl | (simp [errW_none, errW_some] <;> rfl) | (simp [*, errW_none, errW_some] <;> rfl), by repeat (first | (with_reducible first | exact HB.out | apply below_alloc | apply pw_below_drewN | apply below_drew1 | refine below_set ?_ GE165.out | refine below_set ?_ GE202.out | refine below_set ?_ GE224.out) | exact HB.out)⟩
                                          · replace c61 := Bool.eq_false_iff.mpr c61
                                            subst c61
                                            have H1 : (none) = some r := by rw [if_neg (show ¬ (false = true) by decide)] at H; exact H
                                            clear H
                                            have H := H1
                                            clear H1
                                            exact absurd H (by simp)
                                      · replace c57 := Bool.eq_false_iff.mpr c57
                                        subst c57
                                        have H1 : (none) = some r := by rw [if_neg (show ¬ (false = true) by decide)] at H; exact H
                                        clear H
                                        have H := H1
                                        clear H1
                                        exact absurd H (by simp)
                                    · rw [if_neg c56] at H
                                      exact absurd H (by simp)
                                  · rw [if_neg c55] at H
                                    exact absurd H (by simp)
                                · rw [if_neg c54] at H
                                  exact absurd H (by simp)
                              · rw [if_neg c53] at H
                                exact absurd H (by simp)
                            · rw [if_neg c52] at H
                              exact absurd H (by simp)
                          · rw [if_neg c51] at H
                            exact absurd H (by simp)
                        · rw [if_neg c50] at H
                          exact absurd H (by simp)
                      · rw [if_neg c49] at H
                        exact absurd H (by simp)
                    · rw [if_neg c48] at H
                      exact absurd H (by simp)
                  · rw [if_neg c44] at H
                    exact absurd H (by simp)
                · rw [if_neg c42] at H
                  exact absurd H (by simp)
              · rw [if_neg c41] at H
                exact absurd H (by simp)

end Go.Proofs.Ytpmkggcmnelhhaa.P
