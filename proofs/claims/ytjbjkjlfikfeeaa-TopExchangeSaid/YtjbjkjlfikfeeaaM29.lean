/- Texts of this claim, laid together: each says itself what it proves. -/
import Derived.Test.YtjbjkjlfikfeeaaM28
import Derived.Test.YtjbjkjlfikfeeaaM2
/- The law TopExchange: the guards, and both ways joined. -/
namespace Go.Proofs.Ytjbjkjlfikfeeaa.P
set_option linter.unusedVariables false
set_option linter.unusedSimpArgs false
open Go.RowKit Go.Proofs.YtjbjkjlfikfeeaaW.PrintWords Go.Proofs.YtjbjkjlfikfeeaaW.PrintLast Go.Proofs.YtjbjkjlfikfeeaaW.PrintMore Go.Proofs.Ytjbjkjlfikfeeaa.Rd
/-- The law at an input of its program. -/
abbrev TexCall (w : World) (T1 d2 d3 d4 off n : Int) : Prop := Calls Try.prog 4 #[.agg #[.int .i64 T1, .int .i64 d2, .int .i64 d3, .int .i64 d4], .int .i64 off, .int .u64 n] w fun e w' => e = .returned (.bool true) ∧ Below w.heap.size w w'
set_option maxHeartbeats 16000000 in
set_option maxRecDepth 100000 in
/-- Where a guard keeps the input out, the law answers at once. -/
theorem tex_out (w : World) (T1 d2 d3 d4 off n : Int) (h : ¬ (0 ≤ T1 ∧ T1 ≤ 35184372088832 ∧ 0 ≤ d2 ∧ d2 ≤ 1099511627776 ∧ 0 ≤ d3 ∧ d3 ≤ 1099511627776 ∧ 0 ≤ d4 ∧ d4 ≤ 1099511627776 ∧ -35184372088832 ≤ off ∧ off ≤ 35184372088832 ∧ n ≠ 0)) : TexCall w T1 d2 d3 d4 off n := by
  by_cases p : T1 < 0
  · have g1 := decide_eq_true p; clear p
    clear h
    go_enter Try.func4, Try.ntmps4
    go_wp2_with (first | ((with_reducible refine gate_dst (N := 3) rfl ?_); refine box_event ?hg (N := 3) ?hd (cs := (quadL T1 d2 d3 d4).toArray) (t := 40) ?hr ?_; (case hd => rfl); (case hg => rfl); (case hr => first | (go_simp; done) | (go_simp; rfl)); intro g3 hq w1 hbox hb1; have hbl : Blk w1 g3 (quadL T1 d2 d3 d4) 40 := hbox; obtain ⟨c0, c1, c2, c3, -⟩ := blk_cells4 hbl; have HB := Lib.hid hb1; clear hq hbox hb1 hbl))
    go_ret
    exact ⟨rfl, HB.out⟩
  have g1 := decide_eq_false p
  have q0 := Lib.hid p
  clear p
  by_cases p : 35184372088832 < T1
  · have g2 := decide_eq_true p; clear p
    clear h
    go_enter Try.func4, Try.ntmps4
    go_wp2_with (first | ((with_reducible refine gate_dst (N := 3) rfl ?_); refine box_event ?hg (N := 3) ?hd (cs := (quadL T1 d2 d3 d4).toArray) (t := 40) ?hr ?_; (case hd => rfl); (case hg => rfl); (case hr => first | (go_simp; done) | (go_simp; rfl)); intro g3 hq w1 hbox hb1; have hbl : Blk w1 g3 (quadL T1 d2 d3 d4) 40 := hbox; obtain ⟨c0, c1, c2, c3, -⟩ := blk_cells4 hbl; have HB := Lib.hid hb1; clear hq hbox hb1 hbl))
    go_ret
    exact ⟨rfl, HB.out⟩
  have g2 := decide_eq_false p
  have q1 := Lib.hid p
  clear p
  by_cases p : d2 < 0
  · have g3 := decide_eq_true p; clear p
    clear h
    go_enter Try.func4, Try.ntmps4
    go_wp2_with (first | ((with_reducible refine gate_dst (N := 3) rfl ?_); refine box_event ?hg (N := 3) ?hd (cs := (quadL T1 d2 d3 d4).toArray) (t := 40) ?hr ?_; (case hd => rfl); (case hg => rfl); (case hr => first | (go_simp; done) | (go_simp; rfl)); intro g3 hq w1 hbox hb1; have hbl : Blk w1 g3 (quadL T1 d2 d3 d4) 40 := hbox; obtain ⟨c0, c1, c2, c3, -⟩ := blk_cells4 hbl; have HB := Lib.hid hb1; clear hq hbox hb1 hbl))
    go_ret
    exact ⟨rfl, HB.out⟩
  have g3 := decide_eq_false p
  have q2 := Lib.hid p
  clear p
  by_cases p : 1099511627776 < d2
  · have g4 := decide_eq_true p; clear p
    clear h
    go_enter Try.func4, Try.ntmps4
    go_wp2_with (first | ((with_reducible refine gate_dst (N := 3) rfl ?_); refine box_event ?hg (N := 3) ?hd (cs := (quadL T1 d2 d3 d4).toArray) (t := 40) ?hr ?_; (case hd => rfl); (case hg => rfl); (case hr => first | (go_simp; done) | (go_simp; rfl)); intro g3 hq w1 hbox hb1; have hbl : Blk w1 g3 (quadL T1 d2 d3 d4) 40 := hbox; obtain ⟨c0, c1, c2, c3, -⟩ := blk_cells4 hbl; have HB := Lib.hid hb1; clear hq hbox hb1 hbl))
    go_ret
    exact ⟨rfl, HB.out⟩
  have g4 := decide_eq_false p
  have q3 := Lib.hid p
  clear p
  by_cases p : d3 < 0
  · have g5 := decide_eq_true p; clear p
    clear h
    go_enter Try.func4, Try.ntmps4
    go_wp2_with (first | ((with_reducible refine gate_dst (N := 3) rfl ?_); refine box_event ?hg (N := 3) ?hd (cs := (quadL T1 d2 d3 d4).toArray) (t := 40) ?hr ?_; (case hd => rfl); (case hg => rfl); (case hr => first | (go_simp; done) | (go_simp; rfl)); intro g3 hq w1 hbox hb1; have hbl : Blk w1 g3 (quadL T1 d2 d3 d4) 40 := hbox; obtain ⟨c0, c1, c2, c3, -⟩ := blk_cells4 hbl; have HB := Lib.hid hb1; clear hq hbox hb1 hbl))
    go_ret
    exact ⟨rfl, HB.out⟩
  have g5 := decide_eq_false p
  have q4 := Lib.hid p
  clear p
  by_cases p : 1099511627776 < d3
  · have g6 := decide_eq_true p; clear p
    clear h
    go_enter Try.func4, Try.ntmps4
    go_wp2_with (first | ((with_reducible refine gate_dst (N := 3) rfl ?_); refine box_event ?hg (N := 3) ?hd (cs := (quadL T1 d2 d3 d4).toArray) (t := 40) ?hr ?_; (case hd => rfl); (case hg => rfl); (case hr => first | (go_simp; done) | (go_simp; rfl)); intro g3 hq w1 hbox hb1; have hbl : Blk w1 g3 (quadL T1 d2 d3 d4) 40 := hbox; obtain ⟨c0, c1, c2, c3, -⟩ := blk_cells4 hbl; have HB := Lib.hid hb1; clear hq hbox hb1 hbl))
    go_ret
    exact ⟨rfl, HB.out⟩
  have g6 := decide_eq_false p
  have q5 := Lib.hid p
  clear p
  by_cases p : d4 < 0
  · have g7 := decide_eq_true p; clear p
    clear h
    go_enter Try.func4, Try.ntmps4
    go_wp2_with (first | ((with_reducible refine gate_dst (N := 3) rfl ?_); refine box_event ?hg (N := 3) ?hd (cs := (quadL T1 d2 d3 d4).toArray) (t := 40) ?hr ?_; (case hd => rfl); (case hg => rfl); (case hr => first | (go_simp; done) | (go_simp; rfl)); intro g3 hq w1 hbox hb1; have hbl : Blk w1 g3 (quadL T1 d2 d3 d4) 40 := hbox; obtain ⟨c0, c1, c2, c3, -⟩ := blk_cells4 hbl; have HB := Lib.hid hb1; clear hq hbox hb1 hbl))
    go_ret
    exact ⟨rfl, HB.out⟩
  have g7 := decide_eq_false p
  have q6 := Lib.hid p
  clear p
  by_cases p : 1099511627776 < d4
  · have g8 := decide_eq_true p; clear p
    clear h
    go_enter Try.func4, Try.ntmps4
    go_wp2_with (first | ((with_reducible refine gate_dst (N := 3) rfl ?_); refine box_event ?hg (N := 3) ?hd (cs := (quadL T1 d2 d3 d4).toArray) (t := 40) ?hr ?_; (case hd => rfl); (case hg => rfl); (case hr => first | (go_simp; done) | (go_simp; rfl)); intro g3 hq w1 hbox hb1; have hbl : Blk w1 g3 (quadL T1 d2 d3 d4) 40 := hbox; obtain ⟨c0, c1, c2, c3, -⟩ := blk_cells4 hbl; have HB := Lib.hid hb1; clear hq hbox hb1 hbl))
    go_ret
    exact ⟨rfl, HB.out⟩
  have g8 := decide_eq_false p
  have q7 := Lib.hid p
  clear p
  by_cases p : off < -35184372088832
  · have g9 := decide_eq_true p; clear p
    clear h
    go_enter Try.func4, Try.ntmps4
    go_wp2_with (first | ((with_reducible refine gate_dst (N := 3) rfl ?_); refine box_event ?hg (N := 3) ?hd (cs := (quadL T1 d2 d3 d4).toArray) (t := 40) ?hr ?_; (case hd => rfl); (case hg => rfl); (case hr => first | (go_simp; done) | (go_simp; rfl)); intro g3 hq w1 hbox hb1; have hbl : Blk w1 g3 (quadL T1 d2 d3 d4) 40 := hbox; obtain ⟨c0, c1, c2, c3, -⟩ := blk_cells4 hbl; have HB := Lib.hid hb1; clear hq hbox hb1 hbl))
    go_ret
    exact ⟨rfl, HB.out⟩
  have g9 := decide_eq_false p
  have q8 := Lib.hid p
  clear p
  by_cases p : 35184372088832 < off
  · have g10 := decide_eq_true p; clear p
    clear h
    go_enter Try.func4, Try.ntmps4
    go_wp2_with (first | ((with_reducible refine gate_dst (N := 3) rfl ?_); refine box_event ?hg (N := 3) ?hd (cs := (quadL T1 d2 d3 d4).toArray) (t := 40) ?hr ?_; (case hd => rfl); (case hg => rfl); (case hr => first | (go_simp; done) | (go_simp; rfl)); intro g3 hq w1 hbox hb1; have hbl : Blk w1 g3 (quadL T1 d2 d3 d4) 40 := hbox; obtain ⟨c0, c1, c2, c3, -⟩ := blk_cells4 hbl; have HB := Lib.hid hb1; clear hq hbox hb1 hbl))
    go_ret
    exact ⟨rfl, HB.out⟩
  have g10 := decide_eq_false p
  have q9 := Lib.hid p
  clear p
  by_cases p : n = 0
  · have g11 : (n == 0) = true := by simpa using p
    clear p
    clear h
    go_enter Try.func4, Try.ntmps4
    go_wp2_with (first | ((with_reducible refine gate_dst (N := 3) rfl ?_); refine box_event ?hg (N := 3) ?hd (cs := (quadL T1 d2 d3 d4).toArray) (t := 40) ?hr ?_; (case hd => rfl); (case hg => rfl); (case hr => first | (go_simp; done) | (go_simp; rfl)); intro g3 hq w1 hbox hb1; have hbl : Blk w1 g3 (quadL T1 d2 d3 d4) 40 := hbox; obtain ⟨c0, c1, c2, c3, -⟩ := blk_cells4 hbl; have HB := Lib.hid hb1; clear hq hbox hb1 hbl))
    go_ret
    exact ⟨rfl, HB.out⟩

  exact absurd ⟨Int.not_lt.1 q0.out, Int.not_lt.1 q1.out, Int.not_lt.1 q2.out, Int.not_lt.1 q3.out, Int.not_lt.1 q4.out, Int.not_lt.1 q5.out, Int.not_lt.1 q6.out, Int.not_lt.1 q7.out, Int.not_lt.1 q8.out, Int.not_lt.1 q9.out, p⟩ h
theorem iw {x : Int} (h0 : -9223372036854775808 ≤ x) (h1 : x ≤ 9223372036854775807) : IntKind.i64.wrap x = x := by rw [IntKind.wrap_i64]; omega
theorem encE_bytes (x : SE) (h : bytesOk x.f1) : bytesOk (encE x) := by
  intro y hy
  unfold encE at hy
  rcases List.mem_append.1 hy with h1 | h1
  · exact be_bytes _ _ y h1
  · rcases List.mem_append.1 h1 with h2 | h2
    · exact be_bytes _ _ y h2
    · exact h y h2
theorem dl_in {dd dl : Int} (h0 : 0 ≤ dd) (h1 : dd ≤ 2199023255552) (hdl : (if 1 < dd then dd else 1) = dl) : 0 ≤ dl ∧ dl ≤ 2199023255552 ∧ dl = if dd ≤ 1 then 1 else dd := by
  split at hdl
  · rw [if_neg (by omega)]; omega
  · rw [if_pos (by omega)]; omega
theorem mx_in (o : Int) : 0 ≤ mx o (-o) ∧ (mx o (-o) = o ∨ mx o (-o) = -o) := by unfold mx; split <;> omega
set_option maxHeartbeats 4000000 in
/-- Where the guards let the input in, the exchange goes as it should. -/
theorem tex_in (w : World) (T1 d2 d3 d4 off n : Int) (t0 : 0 ≤ T1) (t1 : T1 ≤ 35184372088832) (u0 : 0 ≤ d2) (u1 : d2 ≤ 1099511627776) (v0 : 0 ≤ d3) (v1 : d3 ≤ 1099511627776) (x0 : 0 ≤ d4) (x1 : d4 ≤ 1099511627776)
    (y0 : -35184372088832 ≤ off) (y1 : off ≤ 35184372088832) (hn : n ≠ 0) (n0 : 0 ≤ n) (n1 : n < 18446744073709551616) : TexCall w T1 d2 d3 d4 off n := by
  obtain ⟨came, hc⟩ : ∃ x, x = T1 + d2 := ⟨_, rfl⟩
  obtain ⟨left, hl⟩ : ∃ x, x = came + d3 := ⟨_, rfl⟩
  obtain ⟨fin, hf⟩ : ∃ x, x = left + d4 := ⟨_, rfl⟩
  obtain ⟨q2, hq2⟩ : ∃ x, x = came + off := ⟨_, rfl⟩
  obtain ⟨q3, hq3⟩ : ∃ x, x = left + off := ⟨_, rfl⟩
  obtain ⟨dd, hdd⟩ : ∃ x, x = d2 + d4 := ⟨_, rfl⟩
  obtain ⟨s, hs⟩ : ∃ x, x = 2 * off + d2 - d4 := ⟨_, rfl⟩
  obtain ⟨o, ho⟩ : ∃ x, s / 2 = x := ⟨_, rfl⟩
  obtain ⟨dl, hdl⟩ : ∃ x, (if 1 < dd then dd else 1) = x := ⟨_, rfl⟩
  obtain ⟨dl0, dl1, dl2⟩ := dl_in (by omega) (by omega) hdl
  have hoff := Pure.offset_in off d2 d4 dl u0 x0 (by rw [← hdd]; exact dl2)
  rw [← hs, ho] at hoff
  obtain ⟨m0, m1⟩ := mx_in o
  have hcl : 0 ≤ came ∧ came ≤ 36283883716608 ∧ 0 ≤ left ∧ left ≤ 37383395344384 ∧ 0 ≤ fin ∧ fin ≤ 38482906972160 := by omega
  have hqq : -35184372088832 ≤ q2 ∧ q2 ≤ 71468255805440 ∧ -35184372088832 ≤ q3 ∧ q3 ≤ 72567767433216 ∧ q2 ≤ q3 ∧ T1 ≤ fin := by omega
  have hoo : -35734127902720 ≤ o ∧ o ≤ 35734127902720 := by omega
  obtain ⟨k0, k1, k2, k3, k4, k5⟩ := hcl
  obtain ⟨k6, k7, k8, k9, k10, k11⟩ := hqq
  have hn' : (n == 0) = false := by simpa using hn
  have hr2 := ofV_in (3900000000000000000 + q2) (by omega) (by omega)
  have hr3 := ofV_in (3900000000000000000 + q3) (by omega) (by omega)
  have hp3 := ofV_pos (3900000000000000000 + q3) (by omega)
  have hx : (ofV (3900000000000000000 + q3) == 0) = false := by simp; omega
  have hx' : (ofV (3900000000000000000 + q3) != 0) = true := by simp; omega
  have hv : chkV (left - 10) (left + 20) := by unfold chkV; omega
  have hsz : (15260 + mx o (-o)) ≤ 9007199254740992 ∧ 0 ≤ (15260 + mx o (-o)) := by omega
  have HREC : ∀ W g, Hid (Asc W g 4 n T1 true 0) → Calls Try.prog 19 #[.pointer (some ⟨g, 0, none⟩), .agg #[.int .i64 0, .int .i64 4, .int .i64 4, .int .i64 1, .int .i64 0, .int .i64 (-20), .int .u32 0, .int .u32 1, .int .u32 5, .int .u64 0, .int .u64 n, .int .u64 (ofV (3900000000000000000 + q2)), .int .u64 (ofV (3900000000000000000 + q3))], .int .i64 fin] W (RecPost W g T1 q2 q3 fin) := fun W g hg =>
    assoc_receive W g 4 n T1 fin q2 q3 0 4 1 0 (-20) 0 1 5 0 (ofV (3900000000000000000 + q2)) (ofV (3900000000000000000 + q3)) ⟨#[]⟩ 60 hg hn' hx hx' (decide_eq_false (by omega)) (inside_ok fin (by omega) (by omega)) (rep_check _ _ _ _ _ _ _) (rep_kiss _ _ _ _ _ _) (rep_synced _ _ _ _ _ _ _) (found_ok 56 q2 fin (by omega) (by omega) (by omega) (by omega)) (found_ok 56 q3 fin (by omega) (by omega) (by omega) (by omega)) (decide_eq_false (by omega))
  have HSMP : ∀ W, Calls Try.prog 20 #[.agg #[.int .i64 T1, .int .i64 q2, .int .i64 q3, .int .i64 fin], .int .i64 1, .int .i64 0] W (SmpPost W o dl 1 fin) := fun W =>
    sample_of W T1 q2 q3 fin o dl (d2 + off) (off - d4) d3 (fin - T1) s dd ((iw (by omega) (by omega)).trans rfl) ((iw (by omega) (by omega)).trans (by omega)) ((iw (by omega) (by omega)).trans (by omega)) ((iw (by omega) (by omega)).trans (by omega)) ((iw (by omega) (by omega)).trans (by omega)) ((iw (by omega) (by omega)).trans (by omega)) (iw (by decide) (by decide)) ho hdl
      (smp_inside T1 (by omega) (by omega)) (smp_inside q2 (by omega) (by omega)) (smp_inside q3 (by omega) (by omega)) (smp_inside fin (by omega) (by omega)) tol_ok (growth_ok _ (by omega) (by omega)) (decide_eq_false (by omega)) (decide_eq_false (by omega)) (smp_valid o dl fin (by omega) (by omega) (by omega) (by omega) (by omega) (by omega))
  have HDEC : ntpmsg_Decode.f (repB n (ofV (3900000000000000000 + q2)) (ofV (3900000000000000000 + q3)) (left - 10) (left + 20)) = some (0, 4, 4, 1, 0, -20, 0, 1, 5, 0, n, ofV (3900000000000000000 + q2), ofV (3900000000000000000 + q3), encE (ivF (left - 10) (left + 20)), 0) :=
    dec_hdr rep_valid (by decide) (by decide) (by decide) (by decide) ⟨n0, n1⟩ hr2 hr3 _ (encE_bytes _ (ivB_bytes _ _)) (by rw [encE_len, show (ivF (left - 10) (left + 20)).f1.length = 16 from ivB_len _ _]; decide)
  refine tex_walk w T1 d2 d3 d4 off n came left fin (left - 10) (left + 20) (3900000000000000000 + came) (3900000000000000000 + q2) (3900000000000000000 + left) (3900000000000000000 + q3) (ofV (3900000000000000000 + q2)) (ofV (3900000000000000000 + q3)) q2 q3 o dl (o - ((dl + 1) / 2 + 1)) (o + ((dl + 1) / 2 + 1)) (15260 + mx o (-o)) ((dl + 1) / 2 + (15260 + mx o (-o))) ((dl + 1) / 2 + 1) (1000 + ((dl + 1) / 2 + 1)) (1000 + ((dl + 1) / 2 + 1) - 1)
    (decide_eq_false (by omega)) (decide_eq_false (by omega)) (decide_eq_false (by omega)) (decide_eq_false (by omega)) (decide_eq_false (by omega)) (decide_eq_false (by omega)) (decide_eq_false (by omega)) (decide_eq_false (by omega)) (decide_eq_false (by omega)) (decide_eq_false (by omega)) hn'
    ((iw (by omega) (by omega)).trans (by omega)) ((iw (by omega) (by omega)).trans (by omega)) ((iw (by omega) (by omega)).trans (by omega)) (iw (by omega) (by omega)) (iw (by omega) (by omega)) (iw (by omega) (by omega)) ((iw (by omega) (by omega)).trans (by omega)) (iw (by omega) (by omega)) ((iw (by omega) (by omega)).trans (by omega)) ((iw (by omega) (by omega)).trans (by omega)) ((iw (by omega) (by omega)).trans (by omega))
    (decide_eq_false (by omega)) (decide_eq_false (by omega)) (iw (by omega) (by omega)) (iw (by omega) (by omega)) (decide_eq_true (by omega))
    (fun W g hg => assoc_send W g 4 n T1 hg hn' (inside_ok T1 (by omega) (by omega)))
    (fun W => root_Primary.calls 1000 5 1 0 1000 5 0 W primary_ok)
    (fun W => stamp_Of.calls 1 _ _ W (of_ok 0 _ (by omega) (by omega)))
    (fun W => stamp_Of.calls 1 _ _ W (of_ok 0 _ (by omega) (by omega)))
    (fun W => reply_walk W n _ _ _ _ ⟨n0, n1⟩ hr2 hr3 hv)
    HDEC hv HREC HSMP
    (fun W => sample_Bounds.calls o dl 1 fin _ _ W (smp_bounds o dl fin (by omega) (by omega) (by omega) (by omega) (by omega) (by omega)))
    (fun W => root_Join.calls 5 0 4 4 1 0 (-20) 0 1 5 0 n _ _ o dl 1 fin 7 2 dl (15260 + mx o (-o)) 7 0 W (join_ok n _ _ o dl fin (by omega) (by omega) (by omega) (by omega) (by omega) (by omega)))
    (fun W => root_Distance.calls 2 dl (15260 + mx o (-o)) 7 _ W (root_dist 2 dl (15260 + mx o (-o)) 7 (by unfold rootOk; omega)))
    (fun W => root_Distance.calls 1 0 1000 5 1000 W (root_dist 1 0 1000 5 (by unfold rootOk; decide)))
    (fun W => sample_Distance.calls o dl 1 fin _ W (smp_dist o dl fin (by omega) (by omega) (by omega) (by omega) (by omega) (by omega)))
/-- What the law answers at numbers of their kinds. -/
def timesynctop_TopExchange.f (a0 a1 a2 a3 a4 a5 : Int) : Option Bool := if 0 ≤ a5 ∧ a5 < 18446744073709551616 then some true else none
theorem timesynctop_TopExchange.calls (a0 a1 a2 a3 a4 a5 : Int) (r : Bool) (w : World) (h : timesynctop_TopExchange.f a0 a1 a2 a3 a4 a5 = some r) :
    Calls Try.prog 4 #[.agg #[.int .i64 a0, .int .i64 a1, .int .i64 a2, .int .i64 a3], .int .i64 a4, .int .u64 a5] w fun e w' => e = .returned (.bool r) ∧ Below w.heap.size w w' := by
  unfold timesynctop_TopExchange.f at h
  split at h
  · rename_i hn
    cases h
    by_cases hc : 0 ≤ a0 ∧ a0 ≤ 35184372088832 ∧ 0 ≤ a1 ∧ a1 ≤ 1099511627776 ∧ 0 ≤ a2 ∧ a2 ≤ 1099511627776 ∧ 0 ≤ a3 ∧ a3 ≤ 1099511627776 ∧ -35184372088832 ≤ a4 ∧ a4 ≤ 35184372088832 ∧ a5 ≠ 0
    · obtain ⟨t0, t1, u0, u1, v0, v1, x0, x1, y0, y1, z⟩ := hc
      exact tex_in w a0 a1 a2 a3 a4 a5 t0 t1 u0 u1 v0 v1 x0 x1 y0 y1 z hn.1 hn.2
    · exact tex_out w a0 a1 a2 a3 a4 a5 hc
  · cases h
end Go.Proofs.Ytjbjkjlfikfeeaa.P
/- What is to be shown of the law TopExchange over numbers and lists. -/
namespace Go.Proofs.Ytjbjkjlfikfeeaa.P
open Go.RowKit Go.Proofs.YtjbjkjlfikfeeaaW.PrintWords Go.Proofs.YtjbjkjlfikfeeaaW.PrintLast
def timesynctop_TopExchange.Pure : Prop := ∀ (x0 : S40) (x1 : Int) (x2 : Int), (ok40 x0) → ((Lit.int .i64 x1).wf = true) → ((Lit.int .u64 x2).wf = true) → timesynctop_TopExchange.f x0.f0 x0.f1 x0.f2 x0.f3 x1 x2 = some true
end Go.Proofs.Ytjbjkjlfikfeeaa.P
/- The law TopExchange over numbers: the walk has shown it whole. -/
namespace Go.Proofs.Ytjbjkjlfikfeeaa.Pure
open Go.RowKit Go.Proofs.Ytjbjkjlfikfeeaa.P
theorem TopExchange : timesynctop_TopExchange.Pure := by
  intro x0 x1 x2 _ _ h2
  have h := h2
  simp [Lit.wf, IntKind.bits, IntKind.signed, IntKind.min, IntKind.max] at h
  exact if_pos (by omega)
end Go.Proofs.Ytjbjkjlfikfeeaa.Pure
