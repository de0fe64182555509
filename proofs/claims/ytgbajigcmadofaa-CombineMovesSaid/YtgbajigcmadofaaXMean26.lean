/- combine.Mean. -/
import Derived.Test.YtgbajigcmadofaaXSum26
namespace Go.Proofs.Ytgbajigcmadofaa.P
set_option linter.unusedVariables false
set_option linter.unusedSimpArgs false
open Go.RowKit Go.Proofs.YtgbajigcmadofaaW.PrintWords Go.Proofs.YtgbajigcmadofaaW.PrintLast Go.Proofs.YtgbajigcmadofaaW.PrintMore

/-- What Mean answers. -/
def combine_Mean.f (k : Nat) (l0 : List S34) : Option (Int × Int) :=
  (choose_Check.f k l0).bind fun e => if e = 0 then
    if (l0.length : Int) = 0 then some (0, 14)
    else if l0.length ≤ 1000000 then (wsum l0 0).bind fun all => (vsum (fun c => wrap64 (c.f1 - (rd_T34 l0 0).f1)) all l0 0).bind fun t => some (wrap64 ((rd_T34 l0 0).f1 + t), 0)
    else none
  else some (0, e)
set_option maxHeartbeats 2000000 in
theorem mean_main (k : Nat) (A0 : Option Addr) (c0 : Nat) (l0 : List S34) (all t : Int) (w : World) (hr0 : Hid (Kd.C k34 w A0 l0.length l0)) (hc0 : Hid (l0.length ≤ c0)) (hck : Hid (choose_Check.f k l0 = some 0)) (hp : 0 < (l0.length : Int)) (hl : Hid (l0.length ≤ 1000000))
    (h1 : Hid (wsum l0 0 = some all)) (h2 : Hid (vsum (fun c => wrap64 (c.f1 - (rd_T34 l0 0).f1)) all l0 0 = some t)) :
    Calls Try.prog 9 #[.slice A0 l0.length c0] w fun e w' => e = .returned (.tuple #[.int .i64 (wrap64 ((rd_T34 l0 0).f1 + t)), .int .i64 0]) ∧ Below w.heap.size w w' := by
  have HB := Lib.hid (Below.refl w.heap.size w)
  have d0 : ((l0.length : Int) == 0) = false := by simpa using (show ¬ (l0.length : Int) = 0 by omega)
  have d1 : (l0.length == 0) = false := by simpa using (show ¬ l0.length = 0 by omega)
  have p1 := eq_true hp
  have p2 := eq_true (show 0 < l0.length by omega)
  obtain ⟨ad, e, hx0, hx1, hx2, hx3, hx4⟩ := at_T34 hr0.out 0 (by omega) (by omega)
  cases e
  simp only [show (0 : Int).toNat = 0 from rfl, Nat.zero_mul, Go.Addr.add, ↓reduceIte] at hx1
  have HX1 := Lib.hid hx1
  clear hx0 hx1 hx2 hx3 hx4
  go_enter Try.func9, Try.ntmps9
  go_wp2_with (first
    | ((with_reducible refine gate_callee (f := 14) rfl ?_); refine goesL_ _ rfl rfl Try.func14 (by kernel_rfl) rfl #[.slice (some ad) l0.length c0] rfl (by (try simp only [List.map_toArray, List.map_cons, List.map_nil]); first | done | rfl) ?_; refine (choose_Check.calls k _ _ l0 0 _ hr0.out hc0.out hck.out).mono ?_; rintro e w1 ⟨rfl, hb1⟩; refine ⟨_, rfl, ?_⟩; have hb := below_step HB.out hb1; clear HB; have HB := Lib.hid hb; clear hb hb1; have hx1 := (HB.out.cell (World.block_lt_of_cell? w _ HX1.out)).trans HX1.out)
    | ((with_reducible refine gate_dst (N := 5) rfl ?_); refine box_event ?hg (N := 5) ?hd (cs := #[.int .i64 0]) (t := 3) ?hr ?_; (case hd => rfl); (case hg => rfl); (case hr => first | (go_simp; done) | (go_simp; rfl)); intro g hg wb hbox hb1; have hgl : w.heap.size ≤ g := (by have := HB.out.size; omega); have hb := below_step HB.out hb1; have hk : Hid (wb.heap[g]? = some (.cells #[.int .i64 0] 3 (0, 0))) := hbox; have hz0 := (blk_cell hbox 0).trans rfl; have hf0 := blk_frozen hbox 0; replace hx1 := (hb1.cell (World.block_lt_of_cell? _ _ hx1)).trans hx1; clear HB; have HB := Lib.hid hb; have HGL := Lib.hid hgl; clear hb hb1 hg hgl hbox))
  have hk5 : Hid ((wb.setCell ⟨g, 0, none⟩ (.int .i64 (rd_T34 l0 0).f1)).heap[g]? = some (.cells #[.int .i64 (rd_T34 l0 0).f1] 3 (0, 0))) := by
    show _ = _
    rw [blk_set hk.out 0 _]
    rfl
  have hb5 : Hid (Below w.heap.size w (wb.setCell ⟨g, 0, none⟩ (.int .i64 (rd_T34 l0 0).f1))) := HB.out.setCell HGL.out _
  refine here (fun w' => Hid (w'.heap[g]? = some (.cells #[.int .i64 (rd_T34 l0 0).f1] 3 (0, 0))) ∧ Hid (Below w.heap.size w w')) ⟨hk5, hb5⟩ ?_
  clear hk5 hb5 HB hk hz0 hf0 hx1
  rintro w5 ⟨HK0, HB0⟩
  have hk := blk_drew HK0.out
  have hb := below_drew1 HB0.out
  clear HK0 HB0
  have hz0 := (blk_cell hk 0).trans rfl
  have HK := Lib.hid hk
  have HB := Lib.hid hb
  clear hk hb
  go_region_with (first
    | (go_at_call 18; refine (sum_mean (some ad) c0 l0 (rd_T34 l0 0).f1 g all t _ (Kd.C_below hr0.out HB.out) ((blk_cell HK.out 0).trans rfl) hl h1 h2).mono ?_; rintro e wc ⟨rfl, hb2⟩; have hk1 := blk_below HK.out hb2; have hb := below_step HB.out hb2; clear HK HB; (try clear hz0); have hz0 := (blk_cell hk1 0).trans rfl; have HK := Lib.hid hk1; have HB := Lib.hid hb; clear hk1 hb hb2))
  all_goals
    go_wp2
    go_ret2
    refine ⟨?_, HB.out⟩
    go_simp
    simp only [i64_w]
set_option maxHeartbeats 2000000 in
theorem mean_bad (k : Nat) (A0 : Option Addr) (c0 : Nat) (l0 : List S34) (x : Int) (w : World) (hr0 : Hid (Kd.C k34 w A0 l0.length l0)) (hc0 : Hid (l0.length ≤ c0)) (hck : Hid (choose_Check.f k l0 = some x)) (hx : ¬ x = 0) :
    Calls Try.prog 9 #[.slice A0 l0.length c0] w fun e w' => e = .returned (.tuple #[.int .i64 0, .int .i64 x]) ∧ Below w.heap.size w w' := by
  have d0 : (x == 0) = false := by simpa using hx
  have d1 : (x != 0) = true := by simpa using hx
  go_enter Try.func9, Try.ntmps9
  go_wp2_with (first
    | ((with_reducible refine gate_callee (f := 14) rfl ?_); refine goesL_ _ rfl rfl Try.func14 (by kernel_rfl) rfl #[.slice A0 l0.length c0] rfl (by (try simp only [List.map_toArray, List.map_cons, List.map_nil]); first | done | rfl) ?_; refine (choose_Check.calls k _ _ l0 x _ hr0.out hc0.out hck.out).mono ?_; rintro e w1 ⟨rfl, hb1⟩; refine ⟨_, rfl, ?_⟩; have HB := Lib.hid hb1; clear hb1))
  go_ret2
  exact ⟨rfl, HB.out⟩
set_option maxHeartbeats 2000000 in
theorem mean_empty (k : Nat) (A0 : Option Addr) (c0 : Nat) (w : World) (hck : Hid (choose_Check.f k [] = some 0)) :
    Calls Try.prog 9 #[.slice A0 0 c0] w fun e w' => e = .returned (.tuple #[.int .i64 0, .int .i64 14]) ∧ Below w.heap.size w w' := by
  have hr0 : Hid (Kd.C k34 w A0 ([] : List S34).length []) := ⟨rfl, by simp, fun h => absurd h (Nat.lt_irrefl 0)⟩
  go_enter Try.func9, Try.ntmps9
  go_wp2_with (first
    | ((with_reducible refine gate_callee (f := 14) rfl ?_); refine goesL_ _ rfl rfl Try.func14 (by kernel_rfl) rfl #[.slice A0 ([] : List S34).length c0] rfl (by (try simp only [List.map_toArray, List.map_cons, List.map_nil]); first | done | rfl) ?_; refine (choose_Check.calls k _ _ [] 0 _ hr0.out (Nat.zero_le _) hck.out).mono ?_; rintro e w1 ⟨rfl, hb1⟩; refine ⟨_, rfl, ?_⟩; have HB := Lib.hid hb1; clear hb1))
  go_ret2
  exact ⟨rfl, HB.out⟩
theorem combine_Mean.mono : ∀ a0 k, LeO (combine_Mean.f k a0) (combine_Mean.f (k + 1) a0) := by
  intro a0 k r h
  unfold combine_Mean.f at h ⊢
  obtain ⟨e, h1, h2⟩ := Option.bind_eq_some_iff.1 h
  rw [choose_Check.mono _ _ _ h1]
  exact h2
theorem combine_Mean.calls (k : Nat) (A0 : Option Addr) (c0 : Nat) (l0 : List (S34)) (r1 : Int) (r2 : Int) (w : World) (hr0 : Kd.C k34 w A0 l0.length l0) (hc0 : l0.length ≤ c0) (h : combine_Mean.f k l0 = some (r1, r2)) :
    Calls Try.prog 9 #[.slice A0 l0.length c0] w fun e w' => e = .returned (.tuple #[.int .i64 r1, .int .i64 r2]) ∧ Below w.heap.size w w' := by
  unfold combine_Mean.f at h
  obtain ⟨x, hx, h⟩ := Option.bind_eq_some_iff.1 h
  by_cases h0 : x = 0
  · subst h0
    rw [if_pos rfl] at h
    by_cases hl : (l0.length : Int) = 0
    · rw [if_pos hl] at h
      simp only [Option.some.injEq, Prod.mk.injEq] at h
      obtain ⟨rfl, rfl⟩ := h
      obtain rfl : l0 = [] := List.eq_nil_of_length_eq_zero (by omega)
      exact mean_empty k A0 c0 w hx
    · rw [if_neg hl] at h
      split at h
      · rename_i hbig
        obtain ⟨all, ha, h⟩ := Option.bind_eq_some_iff.1 h
        obtain ⟨t, ht, h⟩ := Option.bind_eq_some_iff.1 h
        simp only [Option.some.injEq, Prod.mk.injEq] at h
        obtain ⟨rfl, rfl⟩ := h
        exact mean_main k A0 c0 l0 all t w hr0 hc0 hx (by omega) hbig ha ht
      · cases h
  · rw [if_neg h0] at h
    simp only [Option.some.injEq, Prod.mk.injEq] at h
    obtain ⟨rfl, rfl⟩ := h
    exact mean_bad k A0 c0 l0 x w hr0 hc0 hx h0
end Go.Proofs.Ytgbajigcmadofaa.P
