/- server.Interval: the bytes of Find, two signed numbers of eight bytes, the check. -/
import Derived.Test.YthneihebdlppeaaXRd4
import Derived.Test.YthneihebdlppeaaPx6
import Derived.Test.YthneihebdlppeaaPx7
namespace Go.Proofs.Ythneihebdlppeaa.P
set_option linter.unusedVariables false
set_option linter.unusedSimpArgs false
open Go.RowKit Go.Proofs.YthneihebdlppeaaW.PrintWords Go.Proofs.YthneihebdlppeaaW.PrintLast Go.Proofs.YthneihebdlppeaaW.PrintMore Go.Proofs.Ythneihebdlppeaa.Rd

theorem results_blk2 {P : Program} {fn : Func} {p u : Tmp} {ty : TypeId} (h : fn.results = #[.cell p ty, .tmp u]) (tmps : Array Value) (w : World) (g : Nat) (t : TypeId) (cs cs' : List Value) (d : TypeDesc) (hg : Blk w g cs t) (hcs : cs = cs')
    (hp : tmps.getD p undef = .pointer (some ⟨g, 0, none⟩))
    (hu : P.underlying ty = some d) (hd : (match d with | .struct _ | .array _ _ => true | _ => false) = true) (hi : (P.info? ty).map (·.size) = some cs'.length) :
    (results fn tmps).run P w = .ok (.tuple #[.agg cs'.toArray, tmps.getD u undef]) w := by
  subst hcs
  exact results_ct h tmps w g t cs.toArray (0, 0) d hp hg hu hd (by rw [hi]; simp)
/-- The numbers of sixteen bytes. -/
def ivLo (b : List Int) : Int := upDown (acc (b.take 8) 8) 8
def ivHi (b : List Int) : Int := upDown (acc ((b.drop 8).take 8) 8) 8
/-- What Interval answers. -/
def server_Interval.f (k : Nat) (l0 : List S50) : Option (Int × Int × Int) :=
  (ext_Find.f k l0 28929).bind fun r => if r.2 = true then
    if r.1.length = 16 then
      if bytesOk r.1 then (drift_Check.f (ivLo r.1) (ivHi r.1)).bind fun e => if e = 0 then some (ivLo r.1, ivHi r.1, 0) else some (0, 0, 2)
      else none
    else some (0, 0, 7)
  else some (0, 0, 11)
theorem blk_cells2 {w : World} {q : Nat} {t : TypeId} {v0 v1 : Value} (h : Blk w q [v0, v1] t) : w.cell? ⟨q, 0, none⟩ = some v0 ∧ w.cell? ⟨q, 1, none⟩ = some v1 ∧ w.frozen? ⟨q, 0, none⟩ = false ∧ w.frozen? ⟨q, 1, none⟩ = false := ⟨h.cell 0, h.cell 1, h.free 0, h.free 1⟩
theorem rint8 {w0 w : World} {g b k : Nat} {all : List Int} (h : Rdr w0 w g b all k) (hl : k + 8 ≤ all.length) :
    Calls Try.prog 45 #[.pointer (some ⟨g, 0, none⟩), .int .i64 8] w fun e w' => e = .returned (.int .i64 (upDown (acc ((all.drop k).take 8) 8) 8)) ∧ Rdr w0 w' g b all (k + 8) ∧ Upd w w' g := h.int 8 (by decide) (by decide) hl
theorem tint8 {w0 w : World} {g b k q r : Nat} {all : List Int} {cs cs2 : List Value} {t t2 : TypeId} (h : Tri w0 w g b all k q cs t r cs2 t2) (hl : k + 8 ≤ all.length) :
    Calls Try.prog 45 #[.pointer (some ⟨g, 0, none⟩), .int .i64 8] w fun e w' => e = .returned (.int .i64 (upDown (acc ((all.drop k).take 8) 8) 8)) ∧ Tri w0 w' g b all (k + 8) q cs t r cs2 t2 := h.int 8 (by decide) (by decide) hl
set_option maxHeartbeats 1000000 in
/-- No interval: none is found, or its length is wrong. -/
theorem int_no (k : Nat) (A0 : Option Addr) (c0 : Nat) (l0 : List S50) (b : List Int) (ok : Bool) (n : Nat) (x : Int) (w : World) (hr0 : Hid (Kd.C k50 w A0 l0.length l0)) (hc0 : Hid (l0.length ≤ c0)) (hf : Hid (ext_Find.f k l0 28929 = some (b, ok))) (hn : Hid (b.length = n))
    (hx : (ok = false ∧ x = 11) ∨ (ok = true ∧ ((n : Int) == 16) = false ∧ ((n : Int) != 16) = true ∧ x = 7)) :
    Calls Try.prog 20 #[.slice A0 l0.length c0] w fun e w' => e = .returned (.tuple #[.agg #[.int .i64 0, .int .i64 0], .int .i64 x]) ∧ Below w.heap.size w w' := by
  rcases hx with ⟨rfl, rfl⟩ | ⟨rfl, hx1, hx2, rfl⟩
  all_goals
    go_enter Try.func20, Try.ntmps20
    go_wp2_with (first
      | ((with_reducible refine gate_dst (N := 2) rfl ?_); refine box_event ?hg (N := 2) ?hd (cs := #[.int .i64 0, .int .i64 0]) (t := 46) ?hr ?_; (case hd => rfl); (case hg => rfl); (case hr => first | (go_simp; done) | (go_simp; rfl)); intro q hq w1 hbox hb1; have hqn : w.heap.size ≤ q := (by omega); clear hq; have HQ := Lib.hid hqn; have HK : Hid (Blk w1 q [.int .i64 0, .int .i64 0] 46) := hbox; have HB := Lib.hid hb1; clear hbox hb1 hqn)
      | (go_at_call 43; refine (ext_Find.calls k A0 c0 l0 28929 b _ _ (Kd.C_below hr0.out HB.out) hc0.out hf.out).mono ?_; rintro e w2 ⟨v, rfl, ho, hb⟩; obtain ⟨A2, c2, rfl, hc2, hC2⟩ := Kd.R_reads ho; rw [hn.out] at ho hc2 hC2 ⊢; have hk := HK.out.below hb; have hb2 := below_step HB.out hb; obtain ⟨hz0, hz1, hf0, hf1⟩ := blk_cells2 hk; clear HK HB ho hc2 hC2; have HK := Lib.hid hk; have HB := Lib.hid hb2; clear hk hb hb2))
    (try simp only [Exit.inBlock, Exit.then])
    refine bodyPost_ret (results_blk2 rfl _ _ q 46 _ [.int .i64 0, .int .i64 0] _ ((HK.out.store 0 _).store 1 _) rfl rfl Try.underlying46 rfl (by kernel_rfl)) rfl ?_
    exact ⟨rfl, (HB.out.setCell HQ.out _).setCell HQ.out _⟩
set_option maxHeartbeats 2000000 in
/-- Sixteen bytes. -/
theorem int_some (k : Nat) (A0 : Option Addr) (c0 : Nat) (l0 : List S50) (b : List Int) (y r1 r2 x : Int) (w : World) (hr0 : Hid (Kd.C k50 w A0 l0.length l0)) (hc0 : Hid (l0.length ≤ c0)) (hf : Hid (ext_Find.f k l0 28929 = some (b, true))) (hn : Hid (b.length = 16)) (hk : Hid (bytesOk b))
    (hd : Hid (drift_Check.f (ivLo b) (ivHi b) = some y)) (hx : (y = 0 ∧ ivLo b = r1 ∧ ivHi b = r2 ∧ x = 0) ∨ ((y == 0) = false ∧ (y != 0) = true ∧ r1 = 0 ∧ r2 = 0 ∧ x = 2)) :
    Calls Try.prog 20 #[.slice A0 l0.length c0] w fun e w' => e = .returned (.tuple #[.agg #[.int .i64 r1, .int .i64 r2], .int .i64 x]) ∧ Below w.heap.size w w' := by
  obtain ⟨lo, hlo⟩ : ∃ lo, upDown (acc ((b.drop 0).take 8) 8) 8 = lo := ⟨_, rfl⟩
  obtain ⟨hi, hhi⟩ : ∃ hi, upDown (acc ((b.drop 8).take 8) 8) 8 = hi := ⟨_, rfl⟩
  have elo : ivLo b = lo := hlo
  have ehi : ivHi b = hi := hhi
  rw [elo, ehi] at hd hx
  have HLO := Lib.hid hlo
  have HHI := Lib.hid hhi
  clear elo ehi hlo hhi
  rcases hx with ⟨rfl, rfl, rfl, rfl⟩ | ⟨hy1, hy2, rfl, rfl, rfl⟩
  all_goals
    go_enter Try.func20, Try.ntmps20
    go_wp2_with (first
      | ((with_reducible refine gate_dst (N := 2) rfl ?_); refine box_event ?hg (N := 2) ?hd (cs := #[.int .i64 0, .int .i64 0]) (t := 46) ?hr ?_; (case hd => rfl); (case hg => rfl); (case hr => first | (go_simp; done) | (go_simp; rfl)); intro q hq w1 hbox hb1; have hqn : w.heap.size ≤ q := (by omega); clear hq; have HQ := Lib.hid hqn; have HK : Hid (Blk w1 q [.int .i64 0, .int .i64 0] 46) := hbox; have HB := Lib.hid hb1; clear hbox hb1 hqn)
      | (go_at_call 43; refine (ext_Find.calls k A0 c0 l0 28929 b _ _ (Kd.C_below hr0.out HB.out) hc0.out hf.out).mono ?_; rintro e w2 ⟨v, rfl, ho, hb⟩; obtain ⟨A2, c2, rfl, hc2, hC2⟩ := Kd.R_reads ho; rw [hn.out] at hc2 ⊢; have hk2 := HK.out.below hb; have hb2 := below_step HB.out hb; clear HK HB ho; have HK := Lib.hid hk2; have HB := Lib.hid hb2; have HC2 := Lib.hid hC2; have HL2 := Lib.hid hc2; clear hk2 hb hb2 hc2 hC2)
      | (go_at_call 44; rw [← hn.out]; refine (Rdr.new (w0 := w) HC2.out (by rw [hn.out]; exact HL2.out) (by rw [hn.out]; omega) hk.out HB.out).mono ?_; rintro e w3 ⟨g, rfl, ⟨bb, hrd, hbb⟩, hlo, hg⟩; have hk3 := HK.out.below hlo; have hql := lt_of_blk HK.out; have hne : q ≠ g ∧ q ≠ bb := (by constructor <;> omega); clear HK HB HC2; have HD := Lib.hid hrd; have HK := Lib.hid hk3; have HNE := Lib.hid hne; clear hrd hk3 hql hne hbb hg hlo)
      | (go_at_call 45; (with_reducible refine (rint8 HD.out ?hl).mono ?_); (case hl => rw [hn.out]; omega); rintro e w4 ⟨rfl, hrd, hu⟩; rw [HLO.out]; have hk4 := HK.out.upd hu HNE.out.1; clear HK HD; have HD := Lib.hid hrd; have HK := Lib.hid hk4; clear hk4 hu hrd)
      | ((with_reducible refine gate_dst (N := 7) rfl ?_); refine box_event ?hg (N := 7) ?hd (cs := #[.int .i64 0, .int .i64 0]) (t := 46) ?hr ?_; (case hd => rfl); (case hg => rfl); (case hr => first | (go_simp; done) | (go_simp; rfl)); intro q2 hq2 w5 hbox hb5; have hgl := HD.out.g_lt; have hbl := HD.out.b_lt; have hql := lt_of_blk HK.out; have hsz := HD.out.low.size; have ht : Tri w w5 g bb b (0 + 8) q2 [.int .i64 0, .int .i64 0] 46 q [.int .i64 0, .int .i64 0] 46 := ⟨HD.out.below' hb5, hbox, HK.out.below hb5, by omega, by omega, HNE.out.1, by omega, by omega⟩; clear HD HK hgl hbl hql hsz hb5 hq2 hbox; have HT := Lib.hid ht; obtain ⟨hz0, hz1, hf0, hf1⟩ := blk_cells2 ht.bq; clear ht)
      | (go_at_call 45; (with_reducible refine (tint8 ((HT.out.store 0 _).store 1 _) ?hl).mono ?_); (case hl => rw [hn.out]; omega); rintro e w6 ⟨rfl, ht⟩; rw [HHI.out]; (try simp only [List.set_cons_zero, List.set_cons_succ] at ht); clear HT hz0 hz1 hf0 hf1; have HT := Lib.hid ht; obtain ⟨hz0, hz1, hf0, hf1⟩ := blk_cells2 ht.bq; clear ht)
      | (go_at_call 39; have ht := HT.out.store 1 (.int .i64 hi); (try simp only [List.set_cons_zero, List.set_cons_succ] at ht); (with_reducible refine (drift_Check.calls lo hi _ _ hd.out).mono ?_); rintro e w7 ⟨rfl, hb7⟩; have hq7 := ht.bq.below hb7; have hr7 := ht.br.below hb7; have hb8 := below_step ht.rd.low hb7; obtain ⟨gz0, gz1, gf0, gf1⟩ := blk_cells2 hq7; obtain ⟨kz0, kz1, kf0, kf1⟩ := blk_cells2 hr7; have hrq := ht.rq; clear HT hz0 hz1 hf0 hf1; have HQ7 := Lib.hid hq7; have HR7 := Lib.hid hr7; have HB := Lib.hid hb8; have HRQ := Lib.hid hrq; clear ht hb7 hb8 hq7 hr7 hrq))
    (try simp only [Exit.inBlock, Exit.then])
    refine bodyPost_ret (results_blk2 rfl _ _ q 46 _ [.int .i64 _, .int .i64 _] _ ((HR7.out.store 0 _).store 1 _) rfl rfl Try.underlying46 rfl (by kernel_rfl)) rfl ?_
    exact ⟨rfl, (HB.out.setCell HQ.out _).setCell HQ.out _⟩
theorem server_Interval.mono : ∀ a0 k, LeO (server_Interval.f k a0) (server_Interval.f (k + 1) a0) := by
  intro a0 k r h
  unfold server_Interval.f at h ⊢
  obtain ⟨e, h1, h2⟩ := Option.bind_eq_some_iff.1 h
  rw [ext_Find.mono _ _ _ _ h1]
  exact h2
theorem server_Interval.calls (k : Nat) (A0 : Option Addr) (c0 : Nat) (l0 : List (S50)) (r1 r2 r3 : Int) (w : World) (hr0 : Kd.C k50 w A0 l0.length l0) (hc0 : l0.length ≤ c0) (h : server_Interval.f k l0 = some (r1, r2, r3)) :
    Calls Try.prog 20 #[.slice A0 l0.length c0] w fun e w' => e = .returned (.tuple #[.agg #[.int .i64 r1, .int .i64 r2], .int .i64 r3]) ∧ Below w.heap.size w w' := by
  unfold server_Interval.f at h
  obtain ⟨⟨b, ok⟩, hf, h⟩ := Option.bind_eq_some_iff.1 h
  by_cases ho : ok = true
  · subst ho
    rw [if_pos rfl] at h
    by_cases hn : b.length = 16
    · rw [if_pos hn] at h
      split at h
      · rename_i hk
        obtain ⟨y, hy, h⟩ := Option.bind_eq_some_iff.1 h
        by_cases h0 : y = 0
        · rw [if_pos h0] at h
          simp only [Option.some.injEq, Prod.mk.injEq] at h
          obtain ⟨rfl, rfl, rfl⟩ := h
          exact int_some k A0 c0 l0 b y _ _ _ w hr0 hc0 hf hn hk hy (.inl ⟨h0, rfl, rfl, rfl⟩)
        · rw [if_neg h0] at h
          simp only [Option.some.injEq, Prod.mk.injEq] at h
          obtain ⟨rfl, rfl, rfl⟩ := h
          exact int_some k A0 c0 l0 b y _ _ _ w hr0 hc0 hf hn hk hy (.inr ⟨by simpa using h0, by simpa using h0, rfl, rfl, rfl⟩)
      · cases h
    · rw [if_neg hn] at h
      simp only [Option.some.injEq, Prod.mk.injEq] at h
      obtain ⟨rfl, rfl, rfl⟩ := h
      exact int_no k A0 c0 l0 b true b.length 7 w hr0 hc0 hf rfl (.inr ⟨rfl, by simp; omega, by simp; omega, rfl⟩)
  · obtain rfl : ok = false := by simpa using ho
    rw [if_neg (by simp)] at h
    simp only [Option.some.injEq, Prod.mk.injEq] at h
    obtain ⟨rfl, rfl, rfl⟩ := h
    exact int_no k A0 c0 l0 b false b.length 11 w hr0 hc0 hf rfl (.inl ⟨rfl, rfl⟩)
end Go.Proofs.Ythneihebdlppeaa.P
