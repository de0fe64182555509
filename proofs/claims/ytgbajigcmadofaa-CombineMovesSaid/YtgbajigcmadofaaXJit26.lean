/- combine.sum with the closure of Jitter; Jitter. -/
import Derived.Test.YtgbajigcmadofaaXSum26
import Derived.Test.YtgbajigcmadofaaXMean26
import Derived.Test.YtgbajigcmadofaaPx6
import Derived.Test.YtgbajigcmadofaaPx23
namespace Go.Proofs.Ytgbajigcmadofaa.P
set_option linter.unusedVariables false
set_option linter.unusedSimpArgs false
open Go.RowKit Go.Proofs.YtgbajigcmadofaaW.PrintWords Go.Proofs.YtgbajigcmadofaaW.PrintLast Go.Proofs.YtgbajigcmadofaaW.PrintMore

def jitd (o x : Int) : Int := min 1073741824 (mx (wrap64 (x - o)) (wrap64 (o - x)))
def jitv (o x : Int) : Int := wrap64 (jitd o x * jitd o x)
theorem jit1 (b0 b1 b2 b3 b4 o : Int) (q : Nat) (w : World) (ho : w.cell? ⟨q, 0, none⟩ = some (.int .i64 o)) :
    Calls Try.prog 26 #[.agg #[.int .i64 b0, .int .i64 b1, .int .i64 b2, .int .i64 b3, .int .i64 b4], .pointer (some ⟨q, 0, none⟩)] w fun e w' => e = .returned (.int .i64 (jitv o b1)) ∧ Below w.heap.size w w' := by
  have HO := Lib.hid ho
  clear ho
  unfold jitv
  go_enter Try.func26, Try.ntmps26
  go_wp2_with (first
    | ((with_reducible refine gate_dst (N := 2) rfl ?_); refine box_event ?hg (N := 2) ?hd (cs := #[.int .i64 b0, .int .i64 b1, .int .i64 b2, .int .i64 b3, .int .i64 b4]) (t := 34) ?hr ?_; (case hd => rfl); (case hg => rfl); (case hr => first | (go_simp; done) | (go_simp; rfl)); intro g hg w1 hbox hb1; have hc1 := (blk_cell hbox 1).trans rfl; have hf1 := blk_frozen hbox 1; have hq1 := (hb1.cell (World.block_lt_of_cell? w _ HO.out)).trans HO.out; have HB := Lib.hid hb1; clear hb1 hbox hg)
    | ((with_reducible refine gate_callee (f := 24) rfl ?_); refine goesL_ _ rfl rfl Try.func24 (by kernel_rfl) rfl #[.int .i64 b1, .int .i64 o] rfl (by (try simp only [List.map_toArray, List.map_cons, List.map_nil]); first | done | rfl) ?_; refine (combine_away.calls b1 o _ _ rfl).mono ?_; rintro e w2 ⟨rfl, hb2⟩; refine ⟨_, rfl, ?_⟩; have hb := below_step HB.out hb2; clear HB; have HB := Lib.hid hb; clear hb hb2))
  go_ret
  exact ⟨rfl, HB.out⟩
set_option maxHeartbeats 4000000 in
theorem sum_jit (A0 : Option Addr) (c0 : Nat) (l0 : List S34) (o : Int) (q : Nat) (all tot : Int) (w : World) (hr0 : Hid (Kd.C k34 w A0 l0.length l0)) (ho : Hid (w.cell? ⟨q, 0, none⟩ = some (.int .i64 o))) (hlen : Hid (l0.length ≤ 1000000))
    (h1 : Hid (wsum l0 0 = some all)) (h2 : Hid (vsum (fun c => jitv o c.f1) all l0 0 = some tot)) :
    Calls Try.prog 18 #[.slice A0 l0.length c0, .func (.func 26) #[] #[.pointer (some ⟨q, 0, none⟩)]] w fun e w' => e = .returned (.int .i64 tot) ∧ Below w.heap.size w w' := by
  have HB := Lib.hid (Below.refl w.heap.size w)
  go_enter Try.func18, Try.ntmps18
  go_wp2
  go_loopw [5, 15] (fun v5 v15 wr => ∃ j a : Int, v15 = .int .i64 j ∧ v5 = .int .i64 a ∧ Hid (0 ≤ j ∧ j ≤ l0.length) ∧ Hid (wsum (l0.drop j.toNat) a = some all) ∧ Hid (Below w.heap.size w wr)) (fun v5 v15 _ => l0.length - (intOf v15).toNat)
  case atStart => exact ⟨0, 0, rfl, rfl, ⟨Int.le_refl _, by omega⟩, h1, HB⟩
  case round =>
    clear HB
    obtain ⟨j, a, rfl, rfl, HI, HW, HB⟩ := hrel
    by_cases hi : j < (l0.length : Int)
    · have c1 : decide (j < (l0.length : Int)) = true := decide_eq_true hi
      have hij := HI.out
      have hlt : j.toNat < l0.length := by omega
      have ej : ((j.toNat : Nat) : Int) = j := by omega
      have hw := HW.out
      have e2 : wrap64 (j + 1) = j + 1 := by have := hlen.out; unfold wrap64; omega
      have e3 : (j + 1).toNat = j.toNat + 1 := by omega
      rw [List.drop_eq_getElem_cons hlt, ← rd_get l0 j.toNat hlt, ej, ← e3] at hw
      unfold wsum at hw
      obtain ⟨x, hx, hw⟩ := Option.bind_eq_some_iff.1 hw
      have HX := Lib.hid hx
      have HW2 := Lib.hid hw
      have HI2 : Hid (0 ≤ j + 1 ∧ j + 1 ≤ (l0.length : Int)) := ⟨by omega, by omega⟩
      have HM : Hid (l0.length - (j + 1).toNat < l0.length - j.toNat) := (by omega : l0.length - (j + 1).toNat < l0.length - j.toNat)
      obtain ⟨ad, e, hx0, hx1, hx2, hx3, hx4⟩ := at_T34 hr0.out j (by omega) (by omega)
      cases e
      replace hx0 := (HB.out.cell (World.block_lt_of_cell? w _ hx0)).trans hx0
      replace hx1 := (HB.out.cell (World.block_lt_of_cell? w _ hx1)).trans hx1
      replace hx2 := (HB.out.cell (World.block_lt_of_cell? w _ hx2)).trans hx2
      replace hx3 := (HB.out.cell (World.block_lt_of_cell? w _ hx3)).trans hx3
      replace hx4 := (HB.out.cell (World.block_lt_of_cell? w _ hx4)).trans hx4
      have p1 := eq_true hij.1
      have p2 := eq_true hi
      clear hx hw hi HW hij ej e3 HI
      go_wp2_with (first
        | ((with_reducible refine gate_dst (N := 8) rfl ?_); refine box_event ?hg (N := 8) ?hd (cs := #[.int .i64 0, .int .i64 0, .int .i64 0, .int .i64 0, .int .i64 0]) (t := 34) ?hr ?_; (case hd => rfl); (case hg => rfl); (case hr => first | (go_simp; done) | (go_simp; rfl)); intro g hg wb hbox hb1; have hb := below_step HB.out hb1; have hgl : w.heap.size ≤ g := (by have := HB.out.size; omega); have hbk : Hid (wb.heap[g]? = some (.cells #[.int .i64 0, .int .i64 0, .int .i64 0, .int .i64 0, .int .i64 0] 34 (0, 0))) := hbox; have hz0 := (blk_cell hbox 0).trans rfl; have hz1 := (blk_cell hbox 1).trans rfl; have hz2 := (blk_cell hbox 2).trans rfl; have hz3 := (blk_cell hbox 3).trans rfl; have hz4 := (blk_cell hbox 4).trans rfl; have hf0 := blk_frozen hbox 0; have hf1 := blk_frozen hbox 1; have hf2 := blk_frozen hbox 2; have hf3 := blk_frozen hbox 3; have hf4 := blk_frozen hbox 4; replace hx0 := (hb1.cell (World.block_lt_of_cell? _ _ hx0)).trans hx0; replace hx1 := (hb1.cell (World.block_lt_of_cell? _ _ hx1)).trans hx1; replace hx2 := (hb1.cell (World.block_lt_of_cell? _ _ hx2)).trans hx2; replace hx3 := (hb1.cell (World.block_lt_of_cell? _ _ hx3)).trans hx3; replace hx4 := (hb1.cell (World.block_lt_of_cell? _ _ hx4)).trans hx4; clear HB; have HB := Lib.hid hb; have HGL := Lib.hid hgl; clear hb hb1 hg hgl hbox)
        | ((with_reducible refine gate_callee (f := 23) rfl ?_); refine goesL_ _ rfl rfl Try.func23 (by kernel_rfl) rfl #[.agg #[.int .i64 (rd_T34 l0 j).f0, .int .i64 (rd_T34 l0 j).f1, .int .i64 (rd_T34 l0 j).f2, .int .i64 (rd_T34 l0 j).f3, .int .i64 (rd_T34 l0 j).f4]] rfl (by (try simp only [List.map_toArray, List.map_cons, List.map_nil]); first | done | rfl) ?_; refine (combine_weight.calls _ _ _ _ _ x _ HX.out).mono ?_; rintro e wc ⟨rfl, hb2⟩; refine ⟨_, rfl, ?_⟩; have hb := below_step ((((( HB.out.setCell HGL.out _).setCell HGL.out _).setCell HGL.out _).setCell HGL.out _).setCell HGL.out _) hb2; clear HB; have HB := Lib.hid hb; clear hb hb2)
        )
      exact ⟨⟨j + 1, _, by rw [e2], rfl, HI2, HW2, HB⟩, by rw [e2]; exact HM.out⟩
    · have c1 : decide (j < (l0.length : Int)) = false := decide_eq_false hi
      have hw := HW.out
      rw [List.drop_of_length_le (by omega)] at hw
      unfold wsum at hw
      obtain rfl := Option.some.inj hw
      clear hw HW HI
      go_wp2
      go_loopw [6, 26] (fun v6 v26 wr => ∃ j a : Int, v26 = .int .i64 j ∧ v6 = .int .i64 a ∧ Hid (0 ≤ j ∧ j ≤ l0.length) ∧ Hid (vsum (fun c => jitv o c.f1) _ (l0.drop j.toNat) a = some tot) ∧ Hid (Below w.heap.size w wr)) (fun v6 v26 _ => l0.length - (intOf v26).toNat)
      case atStart => exact ⟨0, 0, rfl, rfl, ⟨Int.le_refl _, by omega⟩, h2, HB⟩
      case round =>
        clear HB c1 hi
        obtain ⟨j, b, rfl, rfl, HI, HW, HB⟩ := hrel
        by_cases hi : j < (l0.length : Int)
        · have c1 : decide (j < (l0.length : Int)) = true := decide_eq_true hi
          have hij := HI.out
          have hlt : j.toNat < l0.length := by omega
          have ej : ((j.toNat : Nat) : Int) = j := by omega
          have hw := HW.out
          have e2 : wrap64 (j + 1) = j + 1 := by have := hlen.out; unfold wrap64; omega
          have e3 : (j + 1).toNat = j.toNat + 1 := by omega
          rw [List.drop_eq_getElem_cons hlt, ← rd_get l0 j.toNat hlt, ej, ← e3] at hw
          unfold vsum at hw
          obtain ⟨x, hx, hw⟩ := Option.bind_eq_some_iff.1 hw
          obtain ⟨⟨m, mb⟩, hm, hw⟩ := Option.bind_eq_some_iff.1 hw
          have HX := Lib.hid hx
          have HMD := Lib.hid hm
          have HW2 := Lib.hid hw
          have HI2 : Hid (0 ≤ j + 1 ∧ j + 1 ≤ (l0.length : Int)) := ⟨by omega, by omega⟩
          have HM : Hid (l0.length - (j + 1).toNat < l0.length - j.toNat) := (by omega : l0.length - (j + 1).toNat < l0.length - j.toNat)
          obtain ⟨ad, e, hx0, hx1, hx2, hx3, hx4⟩ := at_T34 hr0.out j (by omega) (by omega)
          cases e
          replace hx0 := (HB.out.cell (World.block_lt_of_cell? w _ hx0)).trans hx0
          replace hx1 := (HB.out.cell (World.block_lt_of_cell? w _ hx1)).trans hx1
          replace hx2 := (HB.out.cell (World.block_lt_of_cell? w _ hx2)).trans hx2
          replace hx3 := (HB.out.cell (World.block_lt_of_cell? w _ hx3)).trans hx3
          replace hx4 := (HB.out.cell (World.block_lt_of_cell? w _ hx4)).trans hx4
          have p1 := eq_true hij.1
          have p2 := eq_true hi
          clear hx hm hw hi HW hij ej e3 HI
          go_wp2_with (first
            | ((with_reducible refine gate_dst (N := 10) rfl ?_); refine box_event ?hg (N := 10) ?hd (cs := #[.int .i64 0, .int .i64 0, .int .i64 0, .int .i64 0, .int .i64 0]) (t := 34) ?hr ?_; (case hd => rfl); (case hg => rfl); (case hr => first | (go_simp; done) | (go_simp; rfl)); intro g hg wb hbox hb1; have hb := below_step HB.out hb1; have hgl : w.heap.size ≤ g := (by have := HB.out.size; omega); have hbk : Hid (wb.heap[g]? = some (.cells #[.int .i64 0, .int .i64 0, .int .i64 0, .int .i64 0, .int .i64 0] 34 (0, 0))) := hbox; have hz0 := (blk_cell hbox 0).trans rfl; have hz1 := (blk_cell hbox 1).trans rfl; have hz2 := (blk_cell hbox 2).trans rfl; have hz3 := (blk_cell hbox 3).trans rfl; have hz4 := (blk_cell hbox 4).trans rfl; have hf0 := blk_frozen hbox 0; have hf1 := blk_frozen hbox 1; have hf2 := blk_frozen hbox 2; have hf3 := blk_frozen hbox 3; have hf4 := blk_frozen hbox 4; replace hx0 := (hb1.cell (World.block_lt_of_cell? _ _ hx0)).trans hx0; replace hx1 := (hb1.cell (World.block_lt_of_cell? _ _ hx1)).trans hx1; replace hx2 := (hb1.cell (World.block_lt_of_cell? _ _ hx2)).trans hx2; replace hx3 := (hb1.cell (World.block_lt_of_cell? _ _ hx3)).trans hx3; replace hx4 := (hb1.cell (World.block_lt_of_cell? _ _ hx4)).trans hx4; clear HB; have HB := Lib.hid hb; have HGL := Lib.hid hgl; clear hb hb1 hg hgl hbox)
            )
          have hk5 : Hid ((((((wb.setCell ⟨g, 0, none⟩ (.int .i64 (rd_T34 l0 j).f0)).setCell ⟨g, 1, none⟩ (.int .i64 (rd_T34 l0 j).f1)).setCell ⟨g, 2, none⟩ (.int .i64 (rd_T34 l0 j).f2)).setCell ⟨g, 3, none⟩ (.int .i64 (rd_T34 l0 j).f3)).setCell ⟨g, 4, none⟩ (.int .i64 (rd_T34 l0 j).f4)).heap[g]? = some (.cells #[.int .i64 (rd_T34 l0 j).f0, .int .i64 (rd_T34 l0 j).f1, .int .i64 (rd_T34 l0 j).f2, .int .i64 (rd_T34 l0 j).f3, .int .i64 (rd_T34 l0 j).f4] 34 (0, 0))) := by
            show _ = _
            rw [blk_set (blk_set (blk_set (blk_set (blk_set hbk.out 0 _) 1 _) 2 _) 3 _) 4 _]
            rfl
          have hb5 : Hid (Below w.heap.size w (((((wb.setCell ⟨g, 0, none⟩ (.int .i64 (rd_T34 l0 j).f0)).setCell ⟨g, 1, none⟩ (.int .i64 (rd_T34 l0 j).f1)).setCell ⟨g, 2, none⟩ (.int .i64 (rd_T34 l0 j).f2)).setCell ⟨g, 3, none⟩ (.int .i64 (rd_T34 l0 j).f3)).setCell ⟨g, 4, none⟩ (.int .i64 (rd_T34 l0 j).f4))) := ((((HB.out.setCell HGL.out _).setCell HGL.out _).setCell HGL.out _).setCell HGL.out _).setCell HGL.out _
          refine here (fun w' => Hid (w'.heap[g]? = some (.cells #[.int .i64 (rd_T34 l0 j).f0, .int .i64 (rd_T34 l0 j).f1, .int .i64 (rd_T34 l0 j).f2, .int .i64 (rd_T34 l0 j).f3, .int .i64 (rd_T34 l0 j).f4] 34 (0, 0))) ∧ Hid (Below w.heap.size w w')) ⟨hk5, hb5⟩ ?_
          clear hk5 hb5 HB hbk hz0 hz1 hz2 hz3 hz4 hf0 hf1 hf2 hf3 hf4 hx0 hx1 hx2 hx3 hx4
          rintro w5 ⟨HK0, HB0⟩
          have hk := blk_drew HK0.out
          have hb := below_drew1 HB0.out
          clear HK0 HB0
          have hz0 := (blk_cell hk 0).trans rfl; have hz1 := (blk_cell hk 1).trans rfl; have hz2 := (blk_cell hk 2).trans rfl; have hz3 := (blk_cell hk 3).trans rfl; have hz4 := (blk_cell hk 4).trans rfl
          have HK := Lib.hid hk
          have HB := Lib.hid hb
          clear hk hb
          go_region_with (first
            | (go_at_call 23; refine (combine_weight.calls _ _ _ _ _ x _ HX.out).mono ?_; rintro e wc ⟨rfl, hb2⟩; have hk1 := blk_below HK.out hb2; have hb := below_step HB.out hb2; clear HK HB; (try clear hz0 hz1 hz2 hz3 hz4); have hz0 := (blk_cell hk1 0).trans rfl; have hz1 := (blk_cell hk1 1).trans rfl; have hz2 := (blk_cell hk1 2).trans rfl; have hz3 := (blk_cell hk1 3).trans rfl; have hz4 := (blk_cell hk1 4).trans rfl; have HK := Lib.hid hk1; have HB := Lib.hid hb; clear hk1 hb hb2)
            | (go_at_call 26; refine (jit1 _ _ _ _ _ o q _ ((HB.out.cell (World.block_lt_of_cell? w _ ho.out)).trans ho.out)).mono ?_; rintro e wd ⟨rfl, hb2⟩; have hk1 := blk_below HK.out hb2; have hb := below_step HB.out hb2; clear HK HB; (try clear hz0 hz1 hz2 hz3 hz4); have hz0 := (blk_cell hk1 0).trans rfl; have hz1 := (blk_cell hk1 1).trans rfl; have hz2 := (blk_cell hk1 2).trans rfl; have hz3 := (blk_cell hk1 3).trans rfl; have hz4 := (blk_cell hk1 4).trans rfl; have HK := Lib.hid hk1; have HB := Lib.hid hb; clear hk1 hb hb2)
            | (go_at_call 27; refine (fixed_MulDiv.calls _ _ _ m mb _ HMD.out).mono ?_; rintro e we ⟨rfl, hb3⟩; have hb2 := hb3.below; have hk1 := blk_below HK.out hb2; have hb := below_step HB.out hb2; clear HK HB; (try clear hz0 hz1 hz2 hz3 hz4); have hz0 := (blk_cell hk1 0).trans rfl; have hz1 := (blk_cell hk1 1).trans rfl; have hz2 := (blk_cell hk1 2).trans rfl; have hz3 := (blk_cell hk1 3).trans rfl; have hz4 := (blk_cell hk1 4).trans rfl; have HK := Lib.hid hk1; have HB := Lib.hid hb; clear hk1 hb hb2))
          all_goals
            go_wp2
            exact ⟨⟨j + 1, _, by rw [e2], rfl, HI2, HW2, HB⟩, by rw [e2]; exact HM.out⟩
        · have c1 : decide (j < (l0.length : Int)) = false := decide_eq_false hi
          have hw := HW.out
          rw [List.drop_of_length_le (by omega)] at hw
          unfold vsum at hw
          obtain rfl := Option.some.inj hw
          clear hw HW HI
          go_wp2
          go_ret
          exact ⟨rfl, HB.out⟩
/-- What Jitter answers. -/
def combine_Jitter.f (k : Nat) (l0 : List S34) : Option Int :=
  (combine_Mean.f k l0).bind fun r => if r.2 = 0 then
    if l0.length ≤ 1000000 then (wsum l0 0).bind fun all => (vsum (fun c => jitv r.1 c.f1) all l0 0).bind fun t => (fixed_Sqrt.f k t).bind fun q => some q.1
    else none
  else some 0
set_option maxHeartbeats 2000000 in
theorem jit_main (k : Nat) (A0 : Option Addr) (c0 : Nat) (l0 : List S34) (mean all t q1 : Int) (q2 : Bool) (w : World) (hr0 : Hid (Kd.C k34 w A0 l0.length l0)) (hc0 : Hid (l0.length ≤ c0)) (hm : Hid (combine_Mean.f k l0 = some (mean, 0))) (hl : Hid (l0.length ≤ 1000000))
    (h1 : Hid (wsum l0 0 = some all)) (h2 : Hid (vsum (fun c => jitv mean c.f1) all l0 0 = some t)) (h3 : Hid (fixed_Sqrt.f k t = some (q1, q2))) :
    Calls Try.prog 16 #[.slice A0 l0.length c0] w fun e w' => e = .returned (.int .i64 q1) ∧ Below w.heap.size w w' := by
  have HB := Lib.hid (Below.refl w.heap.size w)
  go_enter Try.func16, Try.ntmps16
  go_wp2_with (first
    | ((with_reducible refine gate_dst (N := 3) rfl ?_); refine box_event ?hg (N := 3) ?hd (cs := #[.int .i64 0]) (t := 3) ?hr ?_; (case hd => rfl); (case hg => rfl); (case hr => first | (go_simp; done) | (go_simp; rfl)); intro g hg wb hbox hb1; have hgl : w.heap.size ≤ g := (by have := HB.out.size; omega); have hb := below_step HB.out hb1; have hk : Hid (wb.heap[g]? = some (.cells #[.int .i64 0] 3 (0, 0))) := hbox; have hz0 := (blk_cell hbox 0).trans rfl; have hf0 := blk_frozen hbox 0; clear HB; have HB := Lib.hid hb; have HGL := Lib.hid hgl; clear hb hb1 hg hgl hbox)
    | ((with_reducible refine gate_callee (f := 9) rfl ?_); refine goesL_ _ rfl rfl Try.func9 (by kernel_rfl) rfl #[.slice A0 l0.length c0] rfl (by (try simp only [List.map_toArray, List.map_cons, List.map_nil]); first | done | rfl) ?_; refine (combine_Mean.calls k A0 c0 l0 mean 0 _ (Kd.C_below hr0.out HB.out) hc0.out hm.out).mono ?_; rintro e w1 ⟨rfl, hb1⟩; refine ⟨_, rfl, ?_⟩; have hb := below_step HB.out hb1; clear HB; have HB := Lib.hid hb; clear hb hb1)
    | ((with_reducible refine gate_callee (f := 18) rfl ?_); refine goesL_ _ rfl rfl Try.func18 (by kernel_rfl) rfl #[.slice A0 l0.length c0, .func (.func 26) #[] #[.pointer (some ⟨g, 0, none⟩)]] rfl (by (try simp only [List.map_toArray, List.map_cons, List.map_nil]); first | done | rfl) ?_; refine (sum_jit A0 c0 l0 mean g all t _ (Kd.C_below hr0.out (HB.out.setCell HGL.out _)) ((blk_cell (blk_set hk.out 0 (.int .i64 mean)) 0).trans rfl) hl h1 h2).mono ?_; rintro e w2 ⟨rfl, hb2⟩; refine ⟨_, rfl, ?_⟩; have hb := below_step (HB.out.setCell HGL.out (p := ⟨g, 0, none⟩) (.int .i64 mean)) hb2; clear HB hz0 hf0; have HB := Lib.hid hb; clear hb hb2)
    | ((with_reducible refine gate_callee (f := 25) rfl ?_); refine goesL_ _ rfl rfl Try.func25 (by kernel_rfl) rfl #[.int .i64 t] rfl (by (try simp only [List.map_toArray, List.map_cons, List.map_nil]); first | done | rfl) ?_; refine (fixed_Sqrt.calls k t q1 q2 _ h3.out).mono ?_; rintro e w3 ⟨rfl, hb3⟩; refine ⟨_, rfl, ?_⟩; have hb := below_step HB.out hb3.below; clear HB; have HB := Lib.hid hb; clear hb hb3))
  go_ret
  exact ⟨rfl, HB.out⟩
set_option maxHeartbeats 2000000 in
theorem jit_bad (k : Nat) (A0 : Option Addr) (c0 : Nat) (l0 : List S34) (mean x : Int) (w : World) (hr0 : Hid (Kd.C k34 w A0 l0.length l0)) (hc0 : Hid (l0.length ≤ c0)) (hm : Hid (combine_Mean.f k l0 = some (mean, x))) (hx : ¬ x = 0) :
    Calls Try.prog 16 #[.slice A0 l0.length c0] w fun e w' => e = .returned (.int .i64 0) ∧ Below w.heap.size w w' := by
  have d1 : (x != 0) = true := by simpa using hx
  have HB := Lib.hid (Below.refl w.heap.size w)
  go_enter Try.func16, Try.ntmps16
  go_wp2_with (first
    | ((with_reducible refine gate_dst (N := 3) rfl ?_); refine box_event ?hg (N := 3) ?hd (cs := #[.int .i64 0]) (t := 3) ?hr ?_; (case hd => rfl); (case hg => rfl); (case hr => first | (go_simp; done) | (go_simp; rfl)); intro g hg wb hbox hb1; have hgl : w.heap.size ≤ g := (by have := HB.out.size; omega); have hb := below_step HB.out hb1; have hk : Hid (wb.heap[g]? = some (.cells #[.int .i64 0] 3 (0, 0))) := hbox; have hz0 := (blk_cell hbox 0).trans rfl; have hf0 := blk_frozen hbox 0; clear HB; have HB := Lib.hid hb; have HGL := Lib.hid hgl; clear hb hb1 hg hgl hbox)
    | ((with_reducible refine gate_callee (f := 9) rfl ?_); refine goesL_ _ rfl rfl Try.func9 (by kernel_rfl) rfl #[.slice A0 l0.length c0] rfl (by (try simp only [List.map_toArray, List.map_cons, List.map_nil]); first | done | rfl) ?_; refine (combine_Mean.calls k A0 c0 l0 mean x _ (Kd.C_below hr0.out HB.out) hc0.out hm.out).mono ?_; rintro e w1 ⟨rfl, hb1⟩; refine ⟨_, rfl, ?_⟩; have hb := below_step HB.out hb1; clear HB; have HB := Lib.hid hb; clear hb hb1))
  go_ret
  exact ⟨rfl, HB.out.setCell HGL.out _⟩
theorem combine_Jitter.mono : ∀ a0 k, LeO (combine_Jitter.f k a0) (combine_Jitter.f (k + 1) a0) := by
  intro a0 k r h
  unfold combine_Jitter.f at h ⊢
  obtain ⟨e, h1, h2⟩ := Option.bind_eq_some_iff.1 h
  rw [combine_Mean.mono _ _ _ h1, Option.bind_some]
  split at h2
  · rename_i h0
    rw [if_pos h0]
    split at h2
    · rename_i hl
      rw [if_pos hl]
      obtain ⟨a, ha, h2⟩ := Option.bind_eq_some_iff.1 h2
      obtain ⟨t, ht, h2⟩ := Option.bind_eq_some_iff.1 h2
      obtain ⟨q, hq, h2⟩ := Option.bind_eq_some_iff.1 h2
      rw [ha, Option.bind_some, ht, Option.bind_some, fixed_Sqrt.mono _ _ _ hq]
      exact h2
    · cases h2
  · rename_i h0
    rw [if_neg h0]
    exact h2
theorem combine_Jitter.calls (k : Nat) (A0 : Option Addr) (c0 : Nat) (l0 : List (S34)) (r : Int) (w : World) (hr0 : Kd.C k34 w A0 l0.length l0) (hc0 : l0.length ≤ c0) (h : combine_Jitter.f k l0 = some r) :
    Calls Try.prog 16 #[.slice A0 l0.length c0] w fun e w' => e = .returned (.int .i64 r) ∧ Below w.heap.size w w' := by
  unfold combine_Jitter.f at h
  obtain ⟨⟨mean, x⟩, hx, h⟩ := Option.bind_eq_some_iff.1 h
  by_cases h0 : x = 0
  · subst h0
    rw [if_pos rfl] at h
    split at h
    · rename_i hbig
      obtain ⟨all, ha, h⟩ := Option.bind_eq_some_iff.1 h
      obtain ⟨t, ht, h⟩ := Option.bind_eq_some_iff.1 h
      obtain ⟨⟨q1, q2⟩, hq, h⟩ := Option.bind_eq_some_iff.1 h
      obtain rfl := Option.some.inj h
      exact jit_main k A0 c0 l0 mean all t q1 q2 w hr0 hc0 hx hbig ha ht hq
    · cases h
  · rw [if_neg h0] at h
    obtain rfl := Option.some.inj h
    exact jit_bad k A0 c0 l0 mean x w hr0 hc0 hx h0
end Go.Proofs.Ytgbajigcmadofaa.P
