/- Texts of this claim, laid together: each says itself what it proves. -/
import Derived.Test.YtjbjkjlfikfeeaaM1
import Derived.Test.YtjbjkjlfikfeeaaM3
import Derived.Deep.RegionWith
namespace Go.Proofs.Ytjbjkjlfikfeeaa.P
open Go.RowKit Go.Proofs.YtjbjkjlfikfeeaaW.PrintWords Go.Proofs.YtjbjkjlfikfeeaaW.PrintLast Go.Proofs.YtjbjkjlfikfeeaaW.PrintMore
attribute [local go_sem] max2_int min2_int max_two min_two max_three min_three max_four min_four Go.Proofs.Ytjbjkjlfikfeeaa.Op.isSome_setCell   -- for this text's walks alone
set_option linter.unusedVariables false
set_option linter.unusedSimpArgs false

/-! ### drift_Check: function 28 -/
def drift_Check.f (a0_0 : Int) (a0_1 : Int) : Option (Int) := if a0_0 > a0_1 then (some 3) else (if a0_0 < (-8000000000000000000) then (some 3) else (if a0_1 > 8000000000000000000 then (some 3) else (some 0)))
set_option maxHeartbeats 8000000 in
set_option maxRecDepth 100000 in
theorem drift_Check.calls (a0_0 : Int) (a0_1 : Int) (r : Int) (w : World) (h : drift_Check.f a0_0 a0_1 = some r) :
    Calls Try.prog 28 #[.agg #[.int .i64 a0_0, .int .i64 a0_1]] w fun e w' => e = .returned (.int .i64 r) ∧ Below w.heap.size w w' := by
  have hu33 := Try.underlying33
  have HB := Aside0.mk (Below.refl w.heap.size w)
  have H : (if a0_0 > a0_1 then (some 3) else (if a0_0 < (-8000000000000000000) then (some 3) else (if a0_1 > 8000000000000000000 then (some 3) else (some 0)))) = some r := h
  clear h
  by_cases c2 : a0_0 > a0_1
  · rw [if_pos c2] at H
    have c2b0 : decide (a0_1 < a0_0) = true := decide_eq_true c2
    clear c2
    obtain rfl := Option.some.inj H
    go_enter Try.func28, Try.ntmps28
    go_wp2_with (first | ((with_reducible refine gate_dst (N := 1) rfl ?_); refine box_event ?hg (N := 1) ?hd (cs := #[.int .i64 a0_0, .int .i64 a0_1]) (t := 33) ?hr ?_; (case hd => rfl); (case hg => rfl); (case hr => first | (go_simp; done) | (go_simp; rfl)); intro gb118 hg w3 hbox hb; have n0_ := Aside0.mk (below_step (by repeat (first | (with_reducible first | exact HB.out | apply below_alloc | apply pw_below_drewN | apply below_drew1) | exact HB.out)) hb); have n1_ := Aside0.mk (hbox); have n2_ := Aside0.mk ((by rw [hg]; exact (below_size (by repeat (first | (with_reducible first | exact HB.out | apply below_alloc | apply pw_below_drewN | apply below_drew1) | exact HB.out))) : w.heap.size ≤ gb118)); have n3_ := Aside0.mk ((by rw [hg]; exact (below_size (by repeat (first | (with_reducible first | exact HB.out | apply below_alloc | apply pw_below_drewN | apply below_drew1) | exact HB.out))) : w.heap.size ≤ gb118)); clear HB; have HB := n0_; have BK118 := n1_; have GW118 := n2_; have GE118 := n3_; clear n0_ n1_ n2_ n3_; clear hb hbox hg; have hcz4_0 : w3.cell? ⟨gb118, 0, none⟩ = some (.int .i64 a0_0) := (blk_cell BK118.out 0).trans rfl; have hcz4_1 : w3.cell? ⟨gb118, 1, none⟩ = some (.int .i64 a0_1) := (blk_cell BK118.out 1).trans rfl; have hfz4_0 := blk_frozen BK118.out 0; have hfz4_1 := blk_frozen BK118.out 1))
    go_ret
    exact ⟨by first | rfl | (simp [errW_none, errW_some] <;> rfl) | (simp [*, errW_none, errW_some] <;> rfl), by repeat (first | (with_reducible first | exact HB.out | apply below_alloc | apply pw_below_drewN | apply below_drew1 | refine below_set ?_ GE118.out) | exact HB.out)⟩
  · rw [if_neg c2] at H
    have c2b0 : decide (a0_1 < a0_0) = false := decide_eq_false c2
    clear c2
    by_cases c5 : a0_0 < (-8000000000000000000)
    · rw [if_pos c5] at H
      have c5b0 : decide (a0_0 < (-8000000000000000000)) = true := decide_eq_true c5
      clear c5
      obtain rfl := Option.some.inj H
      go_enter Try.func28, Try.ntmps28
      go_wp2_with (first | ((with_reducible refine gate_dst (N := 1) rfl ?_); refine box_event ?hg (N := 1) ?hd (cs := #[.int .i64 a0_0, .int .i64 a0_1]) (t := 33) ?hr ?_; (case hd => rfl); (case hg => rfl); (case hr => first | (go_simp; done) | (go_simp; rfl)); intro gb118 hg w6 hbox hb; have n0_ := Aside0.mk (below_step (by repeat (first | (with_reducible first | exact HB.out | apply below_alloc | apply pw_below_drewN | apply below_drew1) | exact HB.out)) hb); have n1_ := Aside0.mk (hbox); have n2_ := Aside0.mk ((by rw [hg]; exact (below_size (by repeat (first | (with_reducible first | exact HB.out | apply below_alloc | apply pw_below_drewN | apply below_drew1) | exact HB.out))) : w.heap.size ≤ gb118)); have n3_ := Aside0.mk ((by rw [hg]; exact (below_size (by repeat (first | (with_reducible first | exact HB.out | apply below_alloc | apply pw_below_drewN | apply below_drew1) | exact HB.out))) : w.heap.size ≤ gb118)); clear HB; have HB := n0_; have BK118 := n1_; have GW118 := n2_; have GE118 := n3_; clear n0_ n1_ n2_ n3_; clear hb hbox hg; have hcz7_0 : w6.cell? ⟨gb118, 0, none⟩ = some (.int .i64 a0_0) := (blk_cell BK118.out 0).trans rfl; have hcz7_1 : w6.cell? ⟨gb118, 1, none⟩ = some (.int .i64 a0_1) := (blk_cell BK118.out 1).trans rfl; have hfz7_0 := blk_frozen BK118.out 0; have hfz7_1 := blk_frozen BK118.out 1))
      go_ret
      exact ⟨by first | rfl | (simp [errW_none, errW_some] <;> rfl) | (simp [*, errW_none, errW_some] <;> rfl), by repeat (first | (with_reducible first | exact HB.out | apply below_alloc | apply pw_below_drewN | apply below_drew1 | refine below_set ?_ GE118.out) | exact HB.out)⟩
    · rw [if_neg c5] at H
      have c5b0 : decide (a0_0 < (-8000000000000000000)) = false := decide_eq_false c5
      clear c5
      by_cases c8 : a0_1 > 8000000000000000000
      · rw [if_pos c8] at H
        have c8b0 : decide (8000000000000000000 < a0_1) = true := decide_eq_true c8
        clear c8
        obtain rfl := Option.some.inj H
        go_enter Try.func28, Try.ntmps28
        go_wp2_with (first | ((with_reducible refine gate_dst (N := 1) rfl ?_); refine box_event ?hg (N := 1) ?hd (cs := #[.int .i64 a0_0, .int .i64 a0_1]) (t := 33) ?hr ?_; (case hd => rfl); (case hg => rfl); (case hr => first | (go_simp; done) | (go_simp; rfl)); intro gb118 hg w9 hbox hb; have n0_ := Aside0.mk (below_step (by repeat (first | (with_reducible first | exact HB.out | apply below_alloc | apply pw_below_drewN | apply below_drew1) | exact HB.out)) hb); have n1_ := Aside0.mk (hbox); have n2_ := Aside0.mk ((by rw [hg]; exact (below_size (by repeat (first | (with_reducible first | exact HB.out | apply below_alloc | apply pw_below_drewN | apply below_drew1) | exact HB.out))) : w.heap.size ≤ gb118)); have n3_ := Aside0.mk ((by rw [hg]; exact (below_size (by repeat (first | (with_reducible first | exact HB.out | apply below_alloc | apply pw_below_drewN | apply below_drew1) | exact HB.out))) : w.heap.size ≤ gb118)); clear HB; have HB := n0_; have BK118 := n1_; have GW118 := n2_; have GE118 := n3_; clear n0_ n1_ n2_ n3_; clear hb hbox hg; have hcz10_0 : w9.cell? ⟨gb118, 0, none⟩ = some (.int .i64 a0_0) := (blk_cell BK118.out 0).trans rfl; have hcz10_1 : w9.cell? ⟨gb118, 1, none⟩ = some (.int .i64 a0_1) := (blk_cell BK118.out 1).trans rfl; have hfz10_0 := blk_frozen BK118.out 0; have hfz10_1 := blk_frozen BK118.out 1))
        go_ret
        exact ⟨by first | rfl | (simp [errW_none, errW_some] <;> rfl) | (simp [*, errW_none, errW_some] <;> rfl), by repeat (first | (with_reducible first | exact HB.out | apply below_alloc | apply pw_below_drewN | apply below_drew1 | refine below_set ?_ GE118.out) | exact HB.out)⟩
      · rw [if_neg c8] at H
        have c8b0 : decide (8000000000000000000 < a0_1) = false := decide_eq_false c8
        clear c8
        obtain rfl := Option.some.inj H
        go_enter Try.func28, Try.ntmps28
        go_wp2_with (first | ((with_reducible refine gate_dst (N := 1) rfl ?_); refine box_event ?hg (N := 1) ?hd (cs := #[.int .i64 a0_0, .int .i64 a0_1]) (t := 33) ?hr ?_; (case hd => rfl); (case hg => rfl); (case hr => first | (go_simp; done) | (go_simp; rfl)); intro gb118 hg w11 hbox hb; have n0_ := Aside0.mk (below_step (by repeat (first | (with_reducible first | exact HB.out | apply below_alloc | apply pw_below_drewN | apply below_drew1) | exact HB.out)) hb); have n1_ := Aside0.mk (hbox); have n2_ := Aside0.mk ((by rw [hg]; exact (below_size (by repeat (first | (with_reducible first | exact HB.out | apply below_alloc | apply pw_below_drewN | apply below_drew1) | exact HB.out))) : w.heap.size ≤ gb118)); have n3_ := Aside0.mk ((by rw [hg]; exact (below_size (by repeat (first | (with_reducible first | exact HB.out | apply below_alloc | apply pw_below_drewN | apply below_drew1) | exact HB.out))) : w.heap.size ≤ gb118)); clear HB; have HB := n0_; have BK118 := n1_; have GW118 := n2_; have GE118 := n3_; clear n0_ n1_ n2_ n3_; clear hb hbox hg; have hcz12_0 : w11.cell? ⟨gb118, 0, none⟩ = some (.int .i64 a0_0) := (blk_cell BK118.out 0).trans rfl; have hcz12_1 : w11.cell? ⟨gb118, 1, none⟩ = some (.int .i64 a0_1) := (blk_cell BK118.out 1).trans rfl; have hfz12_0 := blk_frozen BK118.out 0; have hfz12_1 := blk_frozen BK118.out 1))
        go_ret
        exact ⟨by first | rfl | (simp [errW_none, errW_some] <;> rfl) | (simp [*, errW_none, errW_some] <;> rfl), by repeat (first | (with_reducible first | exact HB.out | apply below_alloc | apply pw_below_drewN | apply below_drew1 | refine below_set ?_ GE118.out) | exact HB.out)⟩

end Go.Proofs.Ytjbjkjlfikfeeaa.P
/- server.Interval: the bytes of Find, two signed numbers of eight bytes, the check. -/
namespace Go.Proofs.Ytjbjkjlfikfeeaa.P
set_option linter.unusedVariables false
set_option linter.unusedSimpArgs false
open Go.RowKit Go.Proofs.YtjbjkjlfikfeeaaW.PrintWords Go.Proofs.YtjbjkjlfikfeeaaW.PrintLast Go.Proofs.YtjbjkjlfikfeeaaW.PrintMore Go.Proofs.Ytjbjkjlfikfeeaa.Rd

theorem results_blk2 {P : Program} {fn : Func} {p u : Tmp} {ty : TypeId} (h : fn.results = #[.cell p ty, .tmp u]) (tmps : Array Value) (w : World) (g : Nat) (t : TypeId) (cs cs' : List Value) (d : TypeDesc) (hg : Blk w g cs t) (hcs : cs = cs')
    (hp : tmps.getD p undef = .pointer (some ⟨g, 0, none⟩))
    (hu : P.underlying ty = some d) (hd : (match d with | .struct _ | .array _ _ => true | _ => false) = true) (hi : (P.info? ty).map (·.size) = some cs'.length) :
    (results fn tmps).run P w = .ok (.tuple #[.agg cs'.toArray, tmps.getD u undef]) w := by
  subst hcs
  exact results_ct h tmps w g t cs.toArray (0, 0) d hp hg hu hd (by rw [hi]; simp)
/-- The numbers of sixteen bytes. -/
def ivLo (b : List Int) : Int := upDown (acc (b.take 8) 8) 8
def ivHi (b : List Int) : Int := upDown (acc ((b.drop 8).take 8) 8) 8
/-- What Interval answers. -/
def server_Interval.f (k : Nat) (l0 : List S94) : Option (Int × Int × Int) :=
  (ext_Find.f k l0 28929).bind fun r => if r.2 = true then
    if r.1.length = 16 then
      if bytesOk r.1 then (drift_Check.f (ivLo r.1) (ivHi r.1)).bind fun e => if e = 0 then some (ivLo r.1, ivHi r.1, 0) else some (0, 0, 2)
      else none
    else some (0, 0, 7)
  else some (0, 0, 11)
theorem blk_cells2 {w : World} {q : Nat} {t : TypeId} {v0 v1 : Value} (h : Blk w q [v0, v1] t) : w.cell? ⟨q, 0, none⟩ = some v0 ∧ w.cell? ⟨q, 1, none⟩ = some v1 ∧ w.frozen? ⟨q, 0, none⟩ = false ∧ w.frozen? ⟨q, 1, none⟩ = false := ⟨h.cell 0, h.cell 1, h.free 0, h.free 1⟩
theorem rint8 {w0 w : World} {g b k : Nat} {all : List Int} (h : Rdr w0 w g b all k) (hl : k + 8 ≤ all.length) :
    Calls Try.prog 41 #[.pointer (some ⟨g, 0, none⟩), .int .i64 8] w fun e w' => e = .returned (.int .i64 (upDown (acc ((all.drop k).take 8) 8) 8)) ∧ Rdr w0 w' g b all (k + 8) ∧ Upd w w' g := h.int 8 (by decide) (by decide) hl
theorem tint8 {w0 w : World} {g b k q r : Nat} {all : List Int} {cs cs2 : List Value} {t t2 : TypeId} (h : Tri w0 w g b all k q cs t r cs2 t2) (hl : k + 8 ≤ all.length) :
    Calls Try.prog 41 #[.pointer (some ⟨g, 0, none⟩), .int .i64 8] w fun e w' => e = .returned (.int .i64 (upDown (acc ((all.drop k).take 8) 8) 8)) ∧ Tri w0 w' g b all (k + 8) q cs t r cs2 t2 := h.int 8 (by decide) (by decide) hl
set_option maxHeartbeats 1000000 in
/-- No interval: none is found, or its length is wrong. -/
theorem int_no (k : Nat) (A0 : Option Addr) (c0 : Nat) (l0 : List S94) (b : List Int) (ok : Bool) (n : Nat) (x : Int) (w : World) (hr0 : Hid (Kd.C k94 w A0 l0.length l0)) (hc0 : Hid (l0.length ≤ c0)) (hf : Hid (ext_Find.f k l0 28929 = some (b, ok))) (hn : Hid (b.length = n))
    (hx : (ok = false ∧ x = 11) ∨ (ok = true ∧ ((n : Int) == 16) = false ∧ ((n : Int) != 16) = true ∧ x = 7)) :
    Calls Try.prog 18 #[.slice A0 l0.length c0] w fun e w' => e = .returned (.tuple #[.agg #[.int .i64 0, .int .i64 0], .int .i64 x]) ∧ Below w.heap.size w w' := by
  rcases hx with ⟨rfl, rfl⟩ | ⟨rfl, hx1, hx2, rfl⟩
  all_goals
    go_enter Try.func18, Try.ntmps18
    go_wp2_with (first
      | ((with_reducible refine gate_dst (N := 2) rfl ?_); refine box_event ?hg (N := 2) ?hd (cs := #[.int .i64 0, .int .i64 0]) (t := 33) ?hr ?_; (case hd => rfl); (case hg => rfl); (case hr => first | (go_simp; done) | (go_simp; rfl)); intro q hq w1 hbox hb1; have hqn : w.heap.size ≤ q := (by omega); clear hq; have HQ := Lib.hid hqn; have HK : Hid (Blk w1 q [.int .i64 0, .int .i64 0] 33) := hbox; have HB := Lib.hid hb1; clear hbox hb1 hqn)
      | (go_at_call 45; refine (ext_Find.calls k A0 c0 l0 28929 b _ _ (Kd.C_below hr0.out HB.out) hc0.out hf.out).mono ?_; rintro e w2 ⟨v, rfl, ho, hb⟩; obtain ⟨A2, c2, rfl, hc2, hC2⟩ := Kd.R_reads ho; rw [hn.out] at ho hc2 hC2 ⊢; have hk := HK.out.below hb; have hb2 := below_step HB.out hb; obtain ⟨hz0, hz1, hf0, hf1⟩ := blk_cells2 hk; clear HK HB ho hc2 hC2; have HK := Lib.hid hk; have HB := Lib.hid hb2; clear hk hb hb2))
    (try simp only [Exit.inBlock, Exit.then])
    refine bodyPost_ret (results_blk2 rfl _ _ q 33 _ [.int .i64 0, .int .i64 0] _ ((HK.out.store 0 _).store 1 _) rfl rfl Try.underlying33 rfl (by kernel_rfl)) rfl ?_
    exact ⟨rfl, (HB.out.setCell HQ.out _).setCell HQ.out _⟩
set_option maxHeartbeats 2000000 in
/-- Sixteen bytes. -/
theorem int_some (k : Nat) (A0 : Option Addr) (c0 : Nat) (l0 : List S94) (b : List Int) (y r1 r2 x : Int) (w : World) (hr0 : Hid (Kd.C k94 w A0 l0.length l0)) (hc0 : Hid (l0.length ≤ c0)) (hf : Hid (ext_Find.f k l0 28929 = some (b, true))) (hn : Hid (b.length = 16)) (hk : Hid (bytesOk b))
    (hd : Hid (drift_Check.f (ivLo b) (ivHi b) = some y)) (hx : (y = 0 ∧ ivLo b = r1 ∧ ivHi b = r2 ∧ x = 0) ∨ ((y == 0) = false ∧ (y != 0) = true ∧ r1 = 0 ∧ r2 = 0 ∧ x = 2)) :
    Calls Try.prog 18 #[.slice A0 l0.length c0] w fun e w' => e = .returned (.tuple #[.agg #[.int .i64 r1, .int .i64 r2], .int .i64 x]) ∧ Below w.heap.size w w' := by
  obtain ⟨lo, hlo⟩ : ∃ lo, upDown (acc ((b.drop 0).take 8) 8) 8 = lo := ⟨_, rfl⟩
  obtain ⟨hi, hhi⟩ : ∃ hi, upDown (acc ((b.drop 8).take 8) 8) 8 = hi := ⟨_, rfl⟩
  have elo : ivLo b = lo := hlo
  have ehi : ivHi b = hi := hhi
  rw [elo, ehi] at hd hx
  have HLO := Lib.hid hlo
  have HHI := Lib.hid hhi
  clear elo ehi hlo hhi
  rcases hx with ⟨rfl, rfl, rfl, rfl⟩ | ⟨hy1, hy2, rfl, rfl, rfl⟩
  all_goals
    go_enter Try.func18, Try.ntmps18
    go_wp2_with (first
      | ((with_reducible refine gate_dst (N := 2) rfl ?_); refine box_event ?hg (N := 2) ?hd (cs := #[.int .i64 0, .int .i64 0]) (t := 33) ?hr ?_; (case hd => rfl); (case hg => rfl); (case hr => first | (go_simp; done) | (go_simp; rfl)); intro q hq w1 hbox hb1; have hqn : w.heap.size ≤ q := (by omega); clear hq; have HQ := Lib.hid hqn; have HK : Hid (Blk w1 q [.int .i64 0, .int .i64 0] 33) := hbox; have HB := Lib.hid hb1; clear hbox hb1 hqn)
      | (go_at_call 45; refine (ext_Find.calls k A0 c0 l0 28929 b _ _ (Kd.C_below hr0.out HB.out) hc0.out hf.out).mono ?_; rintro e w2 ⟨v, rfl, ho, hb⟩; obtain ⟨A2, c2, rfl, hc2, hC2⟩ := Kd.R_reads ho; rw [hn.out] at hc2 ⊢; have hk2 := HK.out.below hb; have hb2 := below_step HB.out hb; clear HK HB ho; have HK := Lib.hid hk2; have HB := Lib.hid hb2; have HC2 := Lib.hid hC2; have HL2 := Lib.hid hc2; clear hk2 hb hb2 hc2 hC2)
      | (go_at_call 39; rw [← hn.out]; refine (Rdr.new (w0 := w) HC2.out (by rw [hn.out]; exact HL2.out) (by rw [hn.out]; omega) hk.out HB.out).mono ?_; rintro e w3 ⟨g, rfl, ⟨bb, hrd, hbb⟩, hlo, hg⟩; have hk3 := HK.out.below hlo; have hql := lt_of_blk HK.out; have hne : q ≠ g ∧ q ≠ bb := (by constructor <;> omega); clear HK HB HC2; have HD := Lib.hid hrd; have HK := Lib.hid hk3; have HNE := Lib.hid hne; clear hrd hk3 hql hne hbb hg hlo)
      | (go_at_call 41; (with_reducible refine (rint8 HD.out ?hl).mono ?_); (case hl => rw [hn.out]; omega); rintro e w4 ⟨rfl, hrd, hu⟩; rw [HLO.out]; have hk4 := HK.out.upd hu HNE.out.1; clear HK HD; have HD := Lib.hid hrd; have HK := Lib.hid hk4; clear hk4 hu hrd)
      | ((with_reducible refine gate_dst (N := 7) rfl ?_); refine box_event ?hg (N := 7) ?hd (cs := #[.int .i64 0, .int .i64 0]) (t := 33) ?hr ?_; (case hd => rfl); (case hg => rfl); (case hr => first | (go_simp; done) | (go_simp; rfl)); intro q2 hq2 w5 hbox hb5; have hgl := HD.out.g_lt; have hbl := HD.out.b_lt; have hql := lt_of_blk HK.out; have hsz := HD.out.low.size; have ht : Tri w w5 g bb b (0 + 8) q2 [.int .i64 0, .int .i64 0] 33 q [.int .i64 0, .int .i64 0] 33 := ⟨HD.out.below' hb5, hbox, HK.out.below hb5, by omega, by omega, HNE.out.1, by omega, by omega⟩; clear HD HK hgl hbl hql hsz hb5 hq2 hbox; have HT := Lib.hid ht; obtain ⟨hz0, hz1, hf0, hf1⟩ := blk_cells2 ht.bq; clear ht)
      | (go_at_call 41; (with_reducible refine (tint8 ((HT.out.store 0 _).store 1 _) ?hl).mono ?_); (case hl => rw [hn.out]; omega); rintro e w6 ⟨rfl, ht⟩; rw [HHI.out]; (try simp only [List.set_cons_zero, List.set_cons_succ] at ht); clear HT hz0 hz1 hf0 hf1; have HT := Lib.hid ht; obtain ⟨hz0, hz1, hf0, hf1⟩ := blk_cells2 ht.bq; clear ht)
      | (go_at_call 28; have ht := HT.out.store 1 (.int .i64 hi); (try simp only [List.set_cons_zero, List.set_cons_succ] at ht); (with_reducible refine (drift_Check.calls lo hi _ _ hd.out).mono ?_); rintro e w7 ⟨rfl, hb7⟩; have hq7 := ht.bq.below hb7; have hr7 := ht.br.below hb7; have hb8 := below_step ht.rd.low hb7; obtain ⟨gz0, gz1, gf0, gf1⟩ := blk_cells2 hq7; obtain ⟨kz0, kz1, kf0, kf1⟩ := blk_cells2 hr7; have hrq := ht.rq; clear HT hz0 hz1 hf0 hf1; have HQ7 := Lib.hid hq7; have HR7 := Lib.hid hr7; have HB := Lib.hid hb8; have HRQ := Lib.hid hrq; clear ht hb7 hb8 hq7 hr7 hrq))
    (try simp only [Exit.inBlock, Exit.then])
    refine bodyPost_ret (results_blk2 rfl _ _ q 33 _ [.int .i64 _, .int .i64 _] _ ((HR7.out.store 0 _).store 1 _) rfl rfl Try.underlying33 rfl (by kernel_rfl)) rfl ?_
    exact ⟨rfl, (HB.out.setCell HQ.out _).setCell HQ.out _⟩
theorem server_Interval.mono : ∀ a0 k, LeO (server_Interval.f k a0) (server_Interval.f (k + 1) a0) := by
  intro a0 k r h
  unfold server_Interval.f at h ⊢
  obtain ⟨e, h1, h2⟩ := Option.bind_eq_some_iff.1 h
  rw [ext_Find.mono _ _ _ _ h1]
  exact h2
theorem server_Interval.calls (k : Nat) (A0 : Option Addr) (c0 : Nat) (l0 : List (S94)) (r1 r2 r3 : Int) (w : World) (hr0 : Kd.C k94 w A0 l0.length l0) (hc0 : l0.length ≤ c0) (h : server_Interval.f k l0 = some (r1, r2, r3)) :
    Calls Try.prog 18 #[.slice A0 l0.length c0] w fun e w' => e = .returned (.tuple #[.agg #[.int .i64 r1, .int .i64 r2], .int .i64 r3]) ∧ Below w.heap.size w w' := by
  unfold server_Interval.f at h
  obtain ⟨⟨b, ok⟩, hf, h⟩ := Option.bind_eq_some_iff.1 h
  by_cases ho : ok = true
  · subst ho
    rw [if_pos rfl] at h
    by_cases hn : b.length = 16
    · rw [if_pos hn] at h
      split at h
      · rename_i hk
        obtain ⟨y, hy, h⟩ := Option.bind_eq_some_iff.1 h
        by_cases h0 : y = 0
        · rw [if_pos h0] at h
          simp only [Option.some.injEq, Prod.mk.injEq] at h
          obtain ⟨rfl, rfl, rfl⟩ := h
          exact int_some k A0 c0 l0 b y _ _ _ w hr0 hc0 hf hn hk hy (.inl ⟨h0, rfl, rfl, rfl⟩)
        · rw [if_neg h0] at h
          simp only [Option.some.injEq, Prod.mk.injEq] at h
          obtain ⟨rfl, rfl, rfl⟩ := h
          exact int_some k A0 c0 l0 b y _ _ _ w hr0 hc0 hf hn hk hy (.inr ⟨by simpa using h0, by simpa using h0, rfl, rfl, rfl⟩)
      · cases h
    · rw [if_neg hn] at h
      simp only [Option.some.injEq, Prod.mk.injEq] at h
      obtain ⟨rfl, rfl, rfl⟩ := h
      exact int_no k A0 c0 l0 b true b.length 7 w hr0 hc0 hf rfl (.inr ⟨rfl, by simp; omega, by simp; omega, rfl⟩)
  · obtain rfl : ok = false := by simpa using ho
    rw [if_neg (by simp)] at h
    simp only [Option.some.injEq, Prod.mk.injEq] at h
    obtain ⟨rfl, rfl, rfl⟩ := h
    exact int_no k A0 c0 l0 b false b.length 11 w hr0 hc0 hf rfl (.inl ⟨rfl, rfl⟩)
end Go.Proofs.Ytjbjkjlfikfeeaa.P
/- ntpmsg.Decode. -/
namespace Go.Proofs.Ytjbjkjlfikfeeaa.P
set_option linter.unusedVariables false
set_option linter.unusedSimpArgs false
open Go.RowKit Go.Proofs.YtjbjkjlfikfeeaaW.PrintWords Go.Proofs.YtjbjkjlfikfeeaaW.PrintLast Go.Proofs.YtjbjkjlfikfeeaaW.PrintMore Go.Proofs.Ytjbjkjlfikfeeaa.Rd

def zeros : List Value := [.int .i64 0, .int .i64 0, .int .i64 0, .int .i64 0, .int .i64 0, .int .i64 0, .int .u32 0, .int .u32 0, .int .u32 0, .int .u64 0, .int .u64 0, .int .u64 0, .int .u64 0]
theorem blk_cells13 {w : World} {q : Nat} {t : TypeId} {v0 v1 v2 v3 v4 v5 v6 v7 v8 v9 v10 v11 v12 : Value} (h : Blk w q [v0, v1, v2, v3, v4, v5, v6, v7, v8, v9, v10, v11, v12] t) : w.cell? ⟨q, 0, none⟩ = some v0 ∧ w.cell? ⟨q, 1, none⟩ = some v1 ∧ w.cell? ⟨q, 2, none⟩ = some v2 ∧ w.cell? ⟨q, 3, none⟩ = some v3 ∧ w.cell? ⟨q, 4, none⟩ = some v4 ∧ w.cell? ⟨q, 5, none⟩ = some v5 ∧ w.cell? ⟨q, 6, none⟩ = some v6 ∧ w.cell? ⟨q, 7, none⟩ = some v7 ∧ w.cell? ⟨q, 8, none⟩ = some v8 ∧ w.cell? ⟨q, 9, none⟩ = some v9 ∧ w.cell? ⟨q, 10, none⟩ = some v10 ∧ w.cell? ⟨q, 11, none⟩ = some v11 ∧ w.cell? ⟨q, 12, none⟩ = some v12 ∧ w.frozen? ⟨q, 0, none⟩ = false ∧ w.frozen? ⟨q, 1, none⟩ = false ∧ w.frozen? ⟨q, 2, none⟩ = false ∧ w.frozen? ⟨q, 3, none⟩ = false ∧ w.frozen? ⟨q, 4, none⟩ = false ∧ w.frozen? ⟨q, 5, none⟩ = false ∧ w.frozen? ⟨q, 6, none⟩ = false ∧ w.frozen? ⟨q, 7, none⟩ = false ∧ w.frozen? ⟨q, 8, none⟩ = false ∧ w.frozen? ⟨q, 9, none⟩ = false ∧ w.frozen? ⟨q, 10, none⟩ = false ∧ w.frozen? ⟨q, 11, none⟩ = false ∧ w.frozen? ⟨q, 12, none⟩ = false :=
  ⟨h.cell 0, h.cell 1, h.cell 2, h.cell 3, h.cell 4, h.cell 5, h.cell 6, h.cell 7, h.cell 8, h.cell 9, h.cell 10, h.cell 11, h.cell 12, h.free 0, h.free 1, h.free 2, h.free 3, h.free 4, h.free 5, h.free 6, h.free 7, h.free 8, h.free 9, h.free 10, h.free 11, h.free 12⟩
/-- The fields of a header. -/
def decOk (l0 : List Int) (V : Int) : List Value := [.int .i64 (wrap64 (acc (l0.take 1) 1) / 64), .int .i64 V, .int .i64 (bits .and .i64 (wrap64 (acc (l0.take 1) 1)) 7), .int .i64 (wrap64 (acc (l0.tail.take 1) 1)), .int .i64 (upDown (acc ((l0.drop 2).take 1) 1) 1), .int .i64 (upDown (acc ((l0.drop 3).take 1) 1) 1),
  .int .u32 (acc ((l0.drop 4).take 4) 4 % 4294967296), .int .u32 (acc ((l0.drop 8).take 4) 4 % 4294967296), .int .u32 (acc ((l0.drop 12).take 4) 4 % 4294967296), .int .u64 (acc ((l0.drop 16).take 8) 8), .int .u64 (acc ((l0.drop 24).take 8) 8), .int .u64 (acc ((l0.drop 32).take 8) 8), .int .u64 (acc ((l0.drop 40).take 8) 8)]
def DecPost (w : World) (cs : List Value) (l0 : List Int) (e : Ending) (w' : World) : Prop :=
  ∃ v, e = .returned (.tuple #[.agg cs.toArray, v, .int .i64 0]) ∧ w'.ownsRow w.heap.size 5 1 v ((l0.drop 48).take (l0.length - 48)).length (encs (Value.int .u8) ((l0.drop 48).take (l0.length - 48))) ∧ Below w.heap.size w w'
set_option maxHeartbeats 1000000 in
theorem dec_main (A0 : Option Addr) (c0 : Nat) (l0 : List Int) (w : World) (V : Int) (hr0 : Kd.C (Kd.int .u8) w A0 l0.length l0) (hc0 : l0.length ≤ c0) (hl : 48 ≤ l0.length) (hbig : l0.length ≤ 140737488355000) (hk : bytesOk l0)
    (hV : bits .and .i64 (wrap64 (acc (l0.take 1) 1) / 8) 7 = V) (hv1 : (V == 0) = false) (hv2 : decide (4 < V) = false) :
    Calls Try.prog 16 #[.slice A0 l0.length c0] w fun e w' => DecPost w (decOk l0 V) l0 e w' := by
  have d0 : decide ((l0.length : Int) < 48) = false := decide_eq_false (by omega)
  have HR := Lib.hid hr0
  clear hr0
  have hb0 := (Below.refl w.heap.size w).alloc (Nat.le_refl _) (.cells zeros.toArray 46)
  have hR1 := Kd.C_below HR.out hb0
  have hq0 : Blk (w.alloc (.cells zeros.toArray 46)) w.heap.size zeros 46 := Blk.new _ _
  have hs0 : (w.alloc (.cells zeros.toArray 46)).heap.size = w.heap.size + 1 := Array.size_push ..
  have HN : Hid (Calls Try.prog 39 #[.slice A0 l0.length c0] (w.alloc (.cells zeros.toArray 46)) fun e w' => ∃ g, e = .returned (.pointer (some ⟨g, 0, none⟩)) ∧ ∃ b, Rdr w w' g b l0 0 ∧ Blk w' w.heap.size zeros 46 ∧ w.heap.size ≠ g ∧ w.heap.size ≠ b) := by
    show Calls _ _ _ _ _
    refine (Rdr.new (w0 := w) hR1 hc0 hbig hk hb0).mono ?_
    rintro e w1 ⟨g, rfl, ⟨b, hd, hb⟩, hl, hg⟩
    exact ⟨g, rfl, b, hd, (hl.block _ (by omega)).trans hq0, by omega, by omega⟩
  clear hb0 hR1 hq0 hs0 HR
  go_enter Try.func16, Try.ntmps16
  go_wp2_with (first
    | ((with_reducible refine gate_callee (f := 39) rfl ?_); refine goesL_ _ rfl rfl Try.func39 (by kernel_rfl) rfl #[.slice A0 l0.length c0] rfl (by (try simp only [List.map_toArray, List.map_cons, List.map_nil]); first | done | rfl) ?_; refine HN.out.mono ?_; rintro e w1 ⟨g, rfl, b, hd, hq, hqg, hqb⟩; refine ⟨_, rfl, ?_⟩; have HD := Lib.hid hd; have HQ := Lib.hid hq; have HQG := Lib.hid hqg; have HQB := Lib.hid hqb; clear hd hq hqg hqb HN)
    | ((with_reducible refine gate_dst (N := 7) rfl ?_); refine box_event ?hg (N := 7) ?hd (cs := #[.int .i64 0, .int .i64 0, .int .i64 0, .int .i64 0, .int .i64 0, .int .i64 0, .int .u32 0, .int .u32 0, .int .u32 0, .int .u64 0, .int .u64 0, .int .u64 0, .int .u64 0]) (t := 46) ?hr ?_; (case hd => rfl); (case hg => rfl); (case hr => first | (go_simp; done) | (go_simp; rfl)); intro q2 hq2 w3 hbox hb; have hgl := HD.out.g_lt; have hbl := HD.out.b_lt; have hql := lt_of_blk HQ.out; have hsz := HD.out.low.size; have ht : Tri w w3 g b l0 _ q2 [.int .i64 0, .int .i64 0, .int .i64 0, .int .i64 0, .int .i64 0, .int .i64 0, .int .u32 0, .int .u32 0, .int .u32 0, .int .u64 0, .int .u64 0, .int .u64 0, .int .u64 0] 46 w.heap.size zeros 46 := ⟨HD.out.below' hb, hbox, HQ.out.below hb, by omega, by omega, HQG.out, by omega, by omega⟩; clear HD HQ HQG HQB hgl hbl hql hsz hb hq2 hbox; have HT := Lib.hid ht; obtain ⟨hc0, hc1, hc2, hc3, hc4, hc5, hc6, hc7, hc8, hc9, hc10, hc11, hc12, hf0, hf1, hf2, hf3, hf4, hf5, hf6, hf7, hf8, hf9, hf10, hf11, hf12⟩ := blk_cells13 ht.bq; clear ht)
    | ((with_reducible refine gate_callee (f := 40) rfl ?_); refine goesL_ _ rfl rfl Try.func40 (by kernel_rfl) rfl #[.pointer (some ⟨g, 0, none⟩), .int .i64 (1 : Nat)] rfl (by (try simp only [List.map_toArray, List.map_cons, List.map_nil]); first | done | rfl) ?_; (with_reducible first | refine (Tri.uint HT.out 1 (by omega) (by omega) ?hl).mono ?_ | refine (Tri.uint (HT.out.store _ _) 1 (by omega) (by omega) ?hl).mono ?_ | refine (Tri.uint ((HT.out.store _ _).store _ _) 1 (by omega) (by omega) ?hl).mono ?_ | refine (Tri.uint (((HT.out.store _ _).store _ _).store _ _) 1 (by omega) (by omega) ?hl).mono ?_ | refine (Tri.uint ((((HT.out.store _ _).store _ _).store _ _).store _ _) 1 (by omega) (by omega) ?hl).mono ?_ | refine (Tri.uint (((((((((((((HT.out.store _ _).store _ _).store _ _).store _ _).store _ _).store _ _).store _ _).store _ _).store _ _).store _ _).store _ _).store _ _).store _ _) 1 (by omega) (by omega) ?hl).mono ?_); (case hl => first | omega | (simp; omega)); rintro e wn ⟨rfl, ht⟩; refine ⟨_, rfl, ?_⟩; (try simp only [List.set_cons_zero, List.set_cons_succ] at ht); clear hc0 hc1 hc2 hc3 hc4 hc5 hc6 hc7 hc8 hc9 hc10 hc11 hc12 hf0 hf1 hf2 hf3 hf4 hf5 hf6 hf7 hf8 hf9 hf10 hf11 hf12 HT; have HT := Lib.hid ht; obtain ⟨hc0, hc1, hc2, hc3, hc4, hc5, hc6, hc7, hc8, hc9, hc10, hc11, hc12, hf0, hf1, hf2, hf3, hf4, hf5, hf6, hf7, hf8, hf9, hf10, hf11, hf12⟩ := blk_cells13 ht.bq; clear ht)
    | ((with_reducible refine gate_callee (f := 40) rfl ?_); refine goesL_ _ rfl rfl Try.func40 (by kernel_rfl) rfl #[.pointer (some ⟨g, 0, none⟩), .int .i64 (4 : Nat)] rfl (by (try simp only [List.map_toArray, List.map_cons, List.map_nil]); first | done | rfl) ?_; (with_reducible first | refine (Tri.uint HT.out 4 (by omega) (by omega) ?hl).mono ?_ | refine (Tri.uint (HT.out.store _ _) 4 (by omega) (by omega) ?hl).mono ?_ | refine (Tri.uint ((HT.out.store _ _).store _ _) 4 (by omega) (by omega) ?hl).mono ?_ | refine (Tri.uint (((HT.out.store _ _).store _ _).store _ _) 4 (by omega) (by omega) ?hl).mono ?_ | refine (Tri.uint ((((HT.out.store _ _).store _ _).store _ _).store _ _) 4 (by omega) (by omega) ?hl).mono ?_ | refine (Tri.uint (((((((((((((HT.out.store _ _).store _ _).store _ _).store _ _).store _ _).store _ _).store _ _).store _ _).store _ _).store _ _).store _ _).store _ _).store _ _) 4 (by omega) (by omega) ?hl).mono ?_); (case hl => first | omega | (simp; omega)); rintro e wn ⟨rfl, ht⟩; refine ⟨_, rfl, ?_⟩; (try simp only [List.set_cons_zero, List.set_cons_succ] at ht); clear hc0 hc1 hc2 hc3 hc4 hc5 hc6 hc7 hc8 hc9 hc10 hc11 hc12 hf0 hf1 hf2 hf3 hf4 hf5 hf6 hf7 hf8 hf9 hf10 hf11 hf12 HT; have HT := Lib.hid ht; obtain ⟨hc0, hc1, hc2, hc3, hc4, hc5, hc6, hc7, hc8, hc9, hc10, hc11, hc12, hf0, hf1, hf2, hf3, hf4, hf5, hf6, hf7, hf8, hf9, hf10, hf11, hf12⟩ := blk_cells13 ht.bq; clear ht)
    | ((with_reducible refine gate_callee (f := 40) rfl ?_); refine goesL_ _ rfl rfl Try.func40 (by kernel_rfl) rfl #[.pointer (some ⟨g, 0, none⟩), .int .i64 (8 : Nat)] rfl (by (try simp only [List.map_toArray, List.map_cons, List.map_nil]); first | done | rfl) ?_; (with_reducible first | refine (Tri.uint HT.out 8 (by omega) (by omega) ?hl).mono ?_ | refine (Tri.uint (HT.out.store _ _) 8 (by omega) (by omega) ?hl).mono ?_ | refine (Tri.uint ((HT.out.store _ _).store _ _) 8 (by omega) (by omega) ?hl).mono ?_ | refine (Tri.uint (((HT.out.store _ _).store _ _).store _ _) 8 (by omega) (by omega) ?hl).mono ?_ | refine (Tri.uint ((((HT.out.store _ _).store _ _).store _ _).store _ _) 8 (by omega) (by omega) ?hl).mono ?_ | refine (Tri.uint (((((((((((((HT.out.store _ _).store _ _).store _ _).store _ _).store _ _).store _ _).store _ _).store _ _).store _ _).store _ _).store _ _).store _ _).store _ _) 8 (by omega) (by omega) ?hl).mono ?_); (case hl => first | omega | (simp; omega)); rintro e wn ⟨rfl, ht⟩; refine ⟨_, rfl, ?_⟩; (try simp only [List.set_cons_zero, List.set_cons_succ] at ht); clear hc0 hc1 hc2 hc3 hc4 hc5 hc6 hc7 hc8 hc9 hc10 hc11 hc12 hf0 hf1 hf2 hf3 hf4 hf5 hf6 hf7 hf8 hf9 hf10 hf11 hf12 HT; have HT := Lib.hid ht; obtain ⟨hc0, hc1, hc2, hc3, hc4, hc5, hc6, hc7, hc8, hc9, hc10, hc11, hc12, hf0, hf1, hf2, hf3, hf4, hf5, hf6, hf7, hf8, hf9, hf10, hf11, hf12⟩ := blk_cells13 ht.bq; clear ht)
    | ((with_reducible refine gate_callee (f := 41) rfl ?_); refine goesL_ _ rfl rfl Try.func41 (by kernel_rfl) rfl #[.pointer (some ⟨g, 0, none⟩), .int .i64 (1 : Nat)] rfl (by (try simp only [List.map_toArray, List.map_cons, List.map_nil]); first | done | rfl) ?_; (with_reducible first | refine (Tri.int HT.out 1 (by omega) (by omega) ?hl).mono ?_ | refine (Tri.int (HT.out.store _ _) 1 (by omega) (by omega) ?hl).mono ?_ | refine (Tri.int ((HT.out.store _ _).store _ _) 1 (by omega) (by omega) ?hl).mono ?_ | refine (Tri.int (((HT.out.store _ _).store _ _).store _ _) 1 (by omega) (by omega) ?hl).mono ?_ | refine (Tri.int ((((HT.out.store _ _).store _ _).store _ _).store _ _) 1 (by omega) (by omega) ?hl).mono ?_ | refine (Tri.int (((((((((((((HT.out.store _ _).store _ _).store _ _).store _ _).store _ _).store _ _).store _ _).store _ _).store _ _).store _ _).store _ _).store _ _).store _ _) 1 (by omega) (by omega) ?hl).mono ?_); (case hl => first | omega | (simp; omega)); rintro e wn ⟨rfl, ht⟩; refine ⟨_, rfl, ?_⟩; (try simp only [List.set_cons_zero, List.set_cons_succ] at ht); clear hc0 hc1 hc2 hc3 hc4 hc5 hc6 hc7 hc8 hc9 hc10 hc11 hc12 hf0 hf1 hf2 hf3 hf4 hf5 hf6 hf7 hf8 hf9 hf10 hf11 hf12 HT; have HT := Lib.hid ht; obtain ⟨hc0, hc1, hc2, hc3, hc4, hc5, hc6, hc7, hc8, hc9, hc10, hc11, hc12, hf0, hf1, hf2, hf3, hf4, hf5, hf6, hf7, hf8, hf9, hf10, hf11, hf12⟩ := blk_cells13 ht.bq; clear ht)
    | ((with_reducible refine gate_callee (f := 40) rfl ?_); refine goesL_ _ rfl rfl Try.func40 (by kernel_rfl) rfl #[.pointer (some ⟨g, 0, none⟩), .int .i64 (1 : Nat)] rfl (by (try simp only [List.map_toArray, List.map_cons, List.map_nil]); first | done | rfl) ?_; refine (Rdr.uint HD.out 1 (by omega) (by omega) (by omega)).mono ?_; rintro e w2 ⟨rfl, hd, hu⟩; refine ⟨_, rfl, ?_⟩; clear HD; have HD := Lib.hid hd; have hq := HQ.out.upd hu HQG.out; clear HQ; have HQ := Lib.hid hq; clear hd hu hq)
    )
  refine Tri.here ((((HT.out.store _ _).store _ _).store _ _).store _ _) ?_
  intro w5 ht5
  simp only [List.set_cons_zero, List.set_cons_succ] at ht5
  clear hc0 hc1 hc2 hc3 hc4 hc5 hc6 hc7 hc8 hc9 hc10 hc11 hc12 hf0 hf1 hf2 hf3 hf4 hf5 hf6 hf7 hf8 hf9 hf10 hf11 hf12 HT
  obtain ⟨hc0, hc1, hc2, hc3, hc4, hc5, hc6, hc7, hc8, hc9, hc10, hc11, hc12, hf0, hf1, hf2, hf3, hf4, hf5, hf6, hf7, hf8, hf9, hf10, hf11, hf12⟩ := blk_cells13 ht5.bq
  have HT5 := Lib.hid ht5
  clear ht5
  go_region_with (first
    | (go_at_call 43; (with_reducible refine (Tri.left (HT5.out.drew)).mono ?_); rintro e w' ⟨rfl, rfl⟩)
    | (go_at_call 42; (with_reducible refine (Tri.bytes (HT5.out.drew) (l0.length - 48) ?hl).mono ?_); (case hl => omega); rintro e w6 ⟨v, rfl, ho, ht⟩; have HT6 := Lib.hid ht; have HO := Lib.hid ho; obtain ⟨mc0, mc1, mc2, mc3, mc4, mc5, mc6, mc7, mc8, mc9, mc10, mc11, mc12, mf0, mf1, mf2, mf3, mf4, mf5, mf6, mf7, mf8, mf9, mf10, mf11, mf12⟩ := blk_cells13 ht.bq; obtain ⟨kc0, kc1, kc2, kc3, kc4, kc5, kc6, kc7, kc8, kc9, kc10, kc11, kc12, kf0, kf1, kf2, kf3, kf4, kf5, kf6, kf7, kf8, kf9, kf10, kf11, kf12⟩ := blk_cells13 ht.br; clear ht ho))
  all_goals
    go_wp2
    (try simp only [Exit.inBlock, Exit.then])
    refine bodyPost_ret (results_blk rfl _ _ w.heap.size 46 _ (decOk l0 V) _ (((((((((((((HT6.out.br.store _ _).store _ _).store _ _).store _ _).store _ _).store _ _).store _ _).store _ _).store _ _).store _ _).store _ _).store _ _).store _ _) rfl rfl Try.underlying46 rfl (by kernel_rfl)) rfl ?_
    have hlt : w.heap.size < w5.drew.heap.size := lt_of_blk HT5.out.br
    exact ⟨_, rfl, own_less (own_far (own_far (own_far (own_far (own_far (own_far (own_far (own_far (own_far (own_far (own_far (own_far (own_far HO.out _ _ _ hlt) _ _ _ hlt) _ _ _ hlt) _ _ _ hlt) _ _ _ hlt) _ _ _ hlt) _ _ _ hlt) _ _ _ hlt) _ _ _ hlt) _ _ _ hlt) _ _ _ hlt) _ _ _ hlt) _ _ _ hlt) (Nat.le_of_lt hlt), (((((((((((((HT6.out.rd.low.setCell (Nat.le_refl _) _).setCell (Nat.le_refl _) _).setCell (Nat.le_refl _) _).setCell (Nat.le_refl _) _).setCell (Nat.le_refl _) _).setCell (Nat.le_refl _) _).setCell (Nat.le_refl _) _).setCell (Nat.le_refl _) _).setCell (Nat.le_refl _) _).setCell (Nat.le_refl _) _).setCell (Nat.le_refl _) _).setCell (Nat.le_refl _) _).setCell (Nat.le_refl _) _)⟩
set_option maxHeartbeats 1000000 in
theorem dec_short (A0 : Option Addr) (c0 : Nat) (l0 : List Int) (w : World) (hl : l0.length < 48) :
    Calls Try.prog 16 #[.slice A0 l0.length c0] w fun e w' => e = .returned (.tuple #[.agg zeros.toArray, .slice none 0 0, .int .i64 5]) ∧ Below w.heap.size w w' := by
  have d0 : decide ((l0.length : Int) < 48) = true := decide_eq_true (by omega)
  go_enter Try.func16, Try.ntmps16
  go_wp2
  (try simp only [Exit.inBlock, Exit.then])
  refine bodyPost_ret (results_blk rfl _ _ w.heap.size 46 _ zeros _ (Blk.new _ _) rfl rfl Try.underlying46 rfl (by kernel_rfl)) rfl ?_
  exact ⟨rfl, (Below.refl _ _).alloc (Nat.le_refl _) _⟩
set_option maxHeartbeats 1000000 in
theorem dec_kind (A0 : Option Addr) (c0 : Nat) (l0 : List Int) (w : World) (V : Int) (hr0 : Kd.C (Kd.int .u8) w A0 l0.length l0) (hc0 : l0.length ≤ c0) (hl : 48 ≤ l0.length) (hbig : l0.length ≤ 140737488355000) (hk : bytesOk l0)
    (hV : bits .and .i64 (wrap64 (acc (l0.take 1) 1) / 8) 7 = V) (hv : (V == 0) = true ∨ ((V == 0) = false ∧ decide (4 < V) = true)) :
    Calls Try.prog 16 #[.slice A0 l0.length c0] w fun e w' => e = .returned (.tuple #[.agg zeros.toArray, .slice none 0 0, .int .i64 8]) ∧ Below w.heap.size w w' := by
  have d0 : decide ((l0.length : Int) < 48) = false := decide_eq_false (by omega)
  have HR := Lib.hid hr0
  clear hr0
  have hb0 := (Below.refl w.heap.size w).alloc (Nat.le_refl _) (.cells zeros.toArray 46)
  have hR1 := Kd.C_below HR.out hb0
  have hq0 : Blk (w.alloc (.cells zeros.toArray 46)) w.heap.size zeros 46 := Blk.new _ _
  have hs0 : (w.alloc (.cells zeros.toArray 46)).heap.size = w.heap.size + 1 := Array.size_push ..
  have HN : Hid (Calls Try.prog 39 #[.slice A0 l0.length c0] (w.alloc (.cells zeros.toArray 46)) fun e w' => ∃ g, e = .returned (.pointer (some ⟨g, 0, none⟩)) ∧ ∃ b, Rdr w w' g b l0 0 ∧ Blk w' w.heap.size zeros 46 ∧ w.heap.size ≠ g ∧ w.heap.size ≠ b) := by
    show Calls _ _ _ _ _
    refine (Rdr.new (w0 := w) hR1 hc0 hbig hk hb0).mono ?_
    rintro e w1 ⟨g, rfl, ⟨b, hd, hb⟩, hl, hg⟩
    exact ⟨g, rfl, b, hd, (hl.block _ (by omega)).trans hq0, by omega, by omega⟩
  clear hb0 hR1 hq0 hs0 HR
  rcases hv with hv1 | ⟨hv1, hv2⟩
  all_goals
    go_enter Try.func16, Try.ntmps16
    go_wp2_with (first
      | ((with_reducible refine gate_callee (f := 39) rfl ?_); refine goesL_ _ rfl rfl Try.func39 (by kernel_rfl) rfl #[.slice A0 l0.length c0] rfl (by (try simp only [List.map_toArray, List.map_cons, List.map_nil]); first | done | rfl) ?_; refine HN.out.mono ?_; rintro e w1 ⟨g, rfl, b, hd, hq, hqg, hqb⟩; refine ⟨_, rfl, ?_⟩; have HD := Lib.hid hd; have HQ := Lib.hid hq; have HQG := Lib.hid hqg; have HQB := Lib.hid hqb; clear hd hq hqg hqb HN)
      | ((with_reducible refine gate_dst (N := 7) rfl ?_); refine box_event ?hg (N := 7) ?hd (cs := #[.int .i64 0, .int .i64 0, .int .i64 0, .int .i64 0, .int .i64 0, .int .i64 0, .int .u32 0, .int .u32 0, .int .u32 0, .int .u64 0, .int .u64 0, .int .u64 0, .int .u64 0]) (t := 46) ?hr ?_; (case hd => rfl); (case hg => rfl); (case hr => first | (go_simp; done) | (go_simp; rfl)); intro q2 hq2 w3 hbox hb; have hgl := HD.out.g_lt; have hbl := HD.out.b_lt; have hql := lt_of_blk HQ.out; have hsz := HD.out.low.size; have ht : Tri w w3 g b l0 _ q2 [.int .i64 0, .int .i64 0, .int .i64 0, .int .i64 0, .int .i64 0, .int .i64 0, .int .u32 0, .int .u32 0, .int .u32 0, .int .u64 0, .int .u64 0, .int .u64 0, .int .u64 0] 46 w.heap.size zeros 46 := ⟨HD.out.below' hb, hbox, HQ.out.below hb, by omega, by omega, HQG.out, by omega, by omega⟩; have hne1 : w.heap.size ≠ q2 := (by omega); have hne2 : q2 ≠ w.heap.size := (by omega); clear HD HQ HQG HQB hgl hbl hql hsz hb hq2 hbox; have HT := Lib.hid ht; obtain ⟨hc0, hc1, hc2, hc3, hc4, hc5, hc6, hc7, hc8, hc9, hc10, hc11, hc12, hf0, hf1, hf2, hf3, hf4, hf5, hf6, hf7, hf8, hf9, hf10, hf11, hf12⟩ := blk_cells13 ht.bq; obtain ⟨kc0, kc1, kc2, kc3, kc4, kc5, kc6, kc7, kc8, kc9, kc10, kc11, kc12, kf0, kf1, kf2, kf3, kf4, kf5, kf6, kf7, kf8, kf9, kf10, kf11, kf12⟩ := blk_cells13 ht.br; clear ht)
      | ((with_reducible refine gate_callee (f := 40) rfl ?_); refine goesL_ _ rfl rfl Try.func40 (by kernel_rfl) rfl #[.pointer (some ⟨g, 0, none⟩), .int .i64 (1 : Nat)] rfl (by (try simp only [List.map_toArray, List.map_cons, List.map_nil]); first | done | rfl) ?_; refine (Rdr.uint HD.out 1 (by omega) (by omega) (by omega)).mono ?_; rintro e w2 ⟨rfl, hd, hu⟩; refine ⟨_, rfl, ?_⟩; clear HD; have HD := Lib.hid hd; have hq := HQ.out.upd hu HQG.out; clear HQ; have HQ := Lib.hid hq; clear hd hu hq)
      )
    (try simp only [Exit.inBlock, Exit.then])
    refine bodyPost_ret (results_blk rfl _ _ w.heap.size 46 _ zeros _ ((((((((((((((((((((((((((HT.out.store _ _).store _ _).store _ _).store _ _).store _ _).store _ _).store _ _).store _ _).store _ _).store _ _).store _ _).store _ _).store _ _).br.store _ _).store _ _).store _ _).store _ _).store _ _).store _ _).store _ _).store _ _).store _ _).store _ _).store _ _).store _ _).store _ _) rfl rfl Try.underlying46 rfl (by kernel_rfl)) rfl ?_
    exact ⟨rfl, ((((((((((((((((((((((((((HT.out.store _ _).store _ _).store _ _).store _ _).store _ _).store _ _).store _ _).store _ _).store _ _).store _ _).store _ _).store _ _).store _ _).rd.low.setCell (Nat.le_refl _) _).setCell (Nat.le_refl _) _).setCell (Nat.le_refl _) _).setCell (Nat.le_refl _) _).setCell (Nat.le_refl _) _).setCell (Nat.le_refl _) _).setCell (Nat.le_refl _) _).setCell (Nat.le_refl _) _).setCell (Nat.le_refl _) _).setCell (Nat.le_refl _) _).setCell (Nat.le_refl _) _).setCell (Nat.le_refl _) _).setCell (Nat.le_refl _) _)⟩

/-- What Decode answers. -/
def ntpmsg_Decode.f (l0 : List Int) : Option (Int × Int × Int × Int × Int × Int × Int × Int × Int × Int × Int × Int × Int × List Int × Int) :=
  if l0.length < 48 then some (0, 0, 0, 0, 0, 0, 0, 0, 0, 0, 0, 0, 0, [], 5)
  else if l0.length ≤ 140737488355000 ∧ bytesOk l0 then
    if bits .and .i64 (wrap64 (acc (l0.take 1) 1) / 8) 7 = 0 ∨ 4 < bits .and .i64 (wrap64 (acc (l0.take 1) 1) / 8) 7 then some (0, 0, 0, 0, 0, 0, 0, 0, 0, 0, 0, 0, 0, [], 8)
    else some (wrap64 (acc (l0.take 1) 1) / 64, bits .and .i64 (wrap64 (acc (l0.take 1) 1) / 8) 7, bits .and .i64 (wrap64 (acc (l0.take 1) 1)) 7, wrap64 (acc (l0.tail.take 1) 1), upDown (acc ((l0.drop 2).take 1) 1) 1, upDown (acc ((l0.drop 3).take 1) 1) 1,
      acc ((l0.drop 4).take 4) 4 % 4294967296, acc ((l0.drop 8).take 4) 4 % 4294967296, acc ((l0.drop 12).take 4) 4 % 4294967296, acc ((l0.drop 16).take 8) 8, acc ((l0.drop 24).take 8) 8, acc ((l0.drop 32).take 8) 8, acc ((l0.drop 40).take 8) 8, l0.drop 48, 0)
  else none
theorem ntpmsg_Decode.calls (A0 : Option Addr) (c0 : Nat) (l0 : List Int) (r1 : Int) (r2 : Int) (r3 : Int) (r4 : Int) (r5 : Int) (r6 : Int) (r7 : Int) (r8 : Int) (r9 : Int) (r10 : Int) (r11 : Int) (r12 : Int) (r13 : Int) (r14 : List Int) (r15 : Int) (w : World) (hr0 : Kd.C (Kd.int .u8) w A0 l0.length l0) (hc0 : l0.length ≤ c0) (h : ntpmsg_Decode.f l0 = some (r1, r2, r3, r4, r5, r6, r7, r8, r9, r10, r11, r12, r13, r14, r15)) :
    Calls Try.prog 16 #[.slice A0 l0.length c0] w fun e w' => ∃ v13_ : Value, e = .returned (.tuple #[.agg #[.int .i64 r1, .int .i64 r2, .int .i64 r3, .int .i64 r4, .int .i64 r5, .int .i64 r6, .int .u32 r7, .int .u32 r8, .int .u32 r9, .int .u64 r10, .int .u64 r11, .int .u64 r12, .int .u64 r13], v13_, .int .i64 r15]) ∧ Kd.R (Kd.int .u8) 5 w' w.heap.size (fun _ => True) v13_ r14 ∧ Below w.heap.size w w' := by
  unfold ntpmsg_Decode.f at h
  split at h
  · rename_i h1
    simp only [Option.some.injEq, Prod.mk.injEq] at h
    obtain ⟨rfl, rfl, rfl, rfl, rfl, rfl, rfl, rfl, rfl, rfl, rfl, rfl, rfl, rfl, rfl⟩ := h
    refine (dec_short A0 c0 l0 w h1).mono ?_
    rintro e w' ⟨rfl, hb⟩
    exact ⟨_, rfl, Kd.R_nil _ _ _ _ _, hb⟩
  · rename_i h1
    split at h
    · rename_i h2
      obtain ⟨h2, h3⟩ := h2
      split at h
      · rename_i h4
        simp only [Option.some.injEq, Prod.mk.injEq] at h
        obtain ⟨rfl, rfl, rfl, rfl, rfl, rfl, rfl, rfl, rfl, rfl, rfl, rfl, rfl, rfl, rfl⟩ := h
        refine (dec_kind A0 c0 l0 w _ hr0 hc0 (by omega) h2 h3 rfl ?_).mono ?_
        · by_cases h5 : bits .and .i64 (wrap64 (acc (l0.take 1) 1) / 8) 7 = 0
          · exact .inl (by simpa using h5)
          · exact .inr ⟨by simpa using h5, decide_eq_true (by omega)⟩
        · rintro e w' ⟨rfl, hb⟩
          exact ⟨_, rfl, Kd.R_nil _ _ _ _ _, hb⟩
      · rename_i h4
        simp only [Option.some.injEq, Prod.mk.injEq] at h
        obtain ⟨rfl, rfl, rfl, rfl, rfl, rfl, rfl, rfl, rfl, rfl, rfl, rfl, rfl, rfl, rfl⟩ := h
        refine (dec_main A0 c0 l0 w _ hr0 hc0 (by omega) h2 h3 rfl (by simpa using fun h5 => h4 (.inl h5)) (decide_eq_false (fun h5 => h4 (.inr h5)))).mono ?_
        rintro e w' ⟨v, rfl, ho, hb⟩
        have e1 : (l0.drop 48).take (l0.length - 48) = l0.drop 48 := List.take_of_length_le (by rw [List.length_drop]; omega)
        rw [e1] at ho
        exact ⟨v, rfl, Kd.R_of_own ho (fun _ _ => trivial), hb⟩
    · cases h
end Go.Proofs.Ytjbjkjlfikfeeaa.P
