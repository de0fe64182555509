/- The law ServerRoundTrip. -/
import Derived.Test.YthneihebdlppeaaXPar30
import Derived.Test.YthneihebdlppeaaPureIv30
import Derived.Test.YthneihebdlppeaaPureAwk30
import Derived.Test.YthneihebdlppeaaPx30
import Derived.Test.YthneihebdlppeaaPx2
import Derived.Deep.RegionLaw
import Derived.Deep.RegionWith
namespace Go.Proofs.Ythneihebdlppeaa.P
set_option linter.unusedVariables false
set_option linter.unusedSimpArgs false
open Go.RowKit Go.Proofs.YthneihebdlppeaaW.PrintWords Go.Proofs.YthneihebdlppeaaW.PrintLast Go.Proofs.YthneihebdlppeaaW.PrintMore Go.Proofs.Ythneihebdlppeaa.Rd

theorem heap50 : Kd.Heap k50 := ⟨fun hb hK => by
  obtain ⟨A, c, rfl, hl, hC⟩ := k50_open hK
  exact k50_mk _ _ hl (Kd.Heap.C ⟨fun _ h => h⟩ hb hC)⟩
/-- The fields that are no interval. -/
def flt (l : List S50) : List S50 := l.filter fun x => !isIv x
theorem flt_step (l : List S50) (i : Nat) (hi : i < l.length) : flt (l.take (i + 1)) = if l[i].f0 = 28929 then flt (l.take i) else flt (l.take i) ++ [l[i]] := by
  unfold flt
  rw [List.take_succ_eq_append_getElem hi, List.filter_append]
  by_cases h : l[i].f0 = 28929
  · rw [if_pos h]; simp [isIv, h]
  · rw [if_neg h]; simp [isIv, h]
theorem flt_len (l : List S50) : (flt l).length ≤ l.length := List.length_filter_le _ _
theorem flt_mem {l : List S50} {x : S50} (h : x ∈ flt l) : x ∈ l := (List.mem_filter.1 h).1
/-- The interval is found, whatever stands before it (but intervals) and behind it. -/
theorem iv_found (a b : List S50) (x : S50) (hx : x.f0 = 28929) : ivV (flt a ++ [x] ++ b) = readV x.f1 := by
  have h1 : (flt a).find? isIv = none := by
    rw [List.find?_eq_none]
    intro y hy
    have := (List.mem_filter.1 hy).2
    simpa using this
  unfold ivV
  rw [List.append_assoc, List.find?_append, h1, Option.none_or, List.singleton_append, List.find?_cons_of_pos (by simp [isIv, hx])]
/-- The bytes of an interval, read back. -/
def ivB (lo hi : Int) : List Int := be (IntKind.u64.wrap lo) 8 ++ be (IntKind.u64.wrap hi) 8
theorem ivB_len (lo hi : Int) : (ivB lo hi).length = 16 := by unfold ivB; simp only [List.length_append, be_length]
theorem ivB_bytes (lo hi : Int) : bytesOk (ivB lo hi) := by
  intro y hy
  unfold ivB at hy
  rcases List.mem_append.1 hy with h | h <;> exact be_bytes _ _ y h
theorem wrap_back (x : Int) (h0 : -9223372036854775808 ≤ x) (h1 : x ≤ 9223372036854775807) : wrap64 (IntKind.u64.wrap x) = x := by
  rw [IntKind.wrap_u64]; unfold wrap64; omega
theorem ivB_read (lo hi : Int) (h : chkV lo hi) : readV (ivB lo hi) = (lo, hi, 0) := by
  have h' := h
  unfold chkV at h'
  have e1 : (ivB lo hi).take 8 = be (IntKind.u64.wrap lo) 8 := by unfold ivB; rw [List.take_left' (be_length _ _)]
  have e2 : ((ivB lo hi).drop 8).take 8 = be (IntKind.u64.wrap hi) 8 := by unfold ivB; rw [List.drop_left' (be_length _ _), List.take_of_length_le (by rw [be_length]; exact Nat.le_refl _)]
  have f1 : ivLo (ivB lo hi) = lo := by
    unfold ivLo
    rw [e1, acc_be _ 8 (u64_in lo).1 (u64_in2 lo) (Nat.le_refl _), upDown8, wrap_back _ (by omega) (by omega)]
  have f2 : ivHi (ivB lo hi) = hi := by
    unfold ivHi
    rw [e2, acc_be _ 8 (u64_in hi).1 (u64_in2 hi) (Nat.le_refl _), upDown8, wrap_back _ (by omega) (by omega)]
  unfold readV
  rw [if_pos (ivB_len lo hi), f1, f2, if_pos h]

/-- What is held: the interval's cell, the field's cell, the field's bytes. -/
structure St (w0 w : World) (lo hi : Int) (g3 g7 : Nat) (Ax : Option Addr) (cx : Nat) (D : List Int) : Prop where
  b3 : w.heap[g3]? = some (.cells #[.int .i64 lo, .int .i64 hi] 46 (0, 0))
  b7 : w.heap[g7]? = some (.cells #[.int .i64 28929, .slice Ax 16 cx] 50 (0, 0))
  xr : Kd.R (Kd.int .u8) 5 w w0.heap.size (fun _ => True) (.slice Ax 16 cx) D
  low : Below w0.heap.size w0 w
  g30 : w0.heap.size ≤ g3
  g70 : w0.heap.size ≤ g7
section
variable {w0 w w' : World} {lo hi : Int} {g3 g7 cx n cl : Nat} {Ax Al : Option Addr} {D : List Int} {xs : List S50} {ok : Nat → Prop}
theorem St.below (h : St w0 w lo hi g3 g7 Ax cx D) (hb : Below w.heap.size w w') : St w0 w' lo hi g3 g7 Ax cx D :=
  ⟨blk_below h.b3 hb, blk_below h.b7 hb, Kd.R_below h.xr hb, below_step h.low hb, h.g30, h.g70⟩
theorem St.cells (h : St w0 w lo hi g3 g7 Ax cx D) : w.cell? ⟨g3, 0, none⟩ = some (.int .i64 lo) ∧ w.cell? ⟨g3, 1, none⟩ = some (.int .i64 hi) ∧ w.cell? ⟨g7, 0, none⟩ = some (.int .i64 28929) ∧ w.cell? ⟨g7, 1, none⟩ = some (.slice Ax 16 cx) :=
  ⟨(blk_cell h.b3 0).trans rfl, (blk_cell h.b3 1).trans rfl, (blk_cell h.b7 0).trans rfl, (blk_cell h.b7 1).trans rfl⟩
/-- A row of fields that lies apart from the two cells. -/
abbrev Ln (w0 w : World) (g3 g7 : Nat) (v : Value) (xs : List S50) : Prop := Kd.N k50 50 w w0.heap.size (fun k => k ≠ g3 ∧ k ≠ g7) v xs
theorem St.grown {v : Value} (h : St w0 w lo hi g3 g7 Ax cx D) (hn : Ln w0 w g3 g7 v xs) (hg : w.grownBy w' v.ownBlock) (hb : Below w0.heap.size w0 w') : St w0 w' lo hi g3 g7 Ax cx D := by
  refine ⟨blk_grown h.b3 hg (Kd.N_away hn (fun k hk => hk.1)), blk_grown h.b7 hg (Kd.N_away hn (fun k hk => hk.2)), ?_, hb, h.g30, h.g70⟩
  refine Kd.R_mono (Kd.R_grown (Kd.R_tight rfl h.xr) hg (fun k hk e => ?_)) (fun _ _ => trivial)
  obtain ⟨c1, h1⟩ := Kd.R_typed h.xr k hk.symm
  obtain ⟨c2, h2⟩ := Kd.N_typed hn k e.symm
  rw [h1] at h2
  injection h2 with h2
  injection h2 with _ h2
  cases h2
/-- The field's element leads to its bytes alone. -/
theorem St.elem {v : Value} {kd : Int} (h : St w0 w lo hi g3 g7 Ax cx D) (hD : D.length = 16) (hn : Ln w0 w g3 g7 v xs) :
    Kd.FK k50 w (fun k => some k = (Value.slice Ax 16 cx).ownBlock) (⟨kd, D⟩ : S50) [.int .i64 kd, .slice Ax 16 cx] ∧ ∀ k, some k = (Value.slice Ax 16 cx).ownBlock → (k ≠ g3 ∧ k ≠ g7) ∧ some k ≠ v.ownBlock := by
  refine ⟨Kd.FK_of_M (k50_mkM w w0.heap.size _ (⟨kd, D⟩ : S50) (Kd.R_tight rfl h.xr)), fun k hk => ⟨⟨?_, ?_⟩, fun e => ?_⟩⟩
  all_goals obtain ⟨c1, h1⟩ := Kd.R_typed h.xr k hk.symm
  · rintro rfl
    rw [h.b3] at h1
    injection h1 with h1
    injection h1 with _ h1
    cases h1
  · rintro rfl
    rw [h.b7] at h1
    injection h1 with h1
    injection h1 with _ h1
    cases h1
  · obtain ⟨c2, h2⟩ := Kd.N_typed hn k e.symm
    rw [h1] at h2
    injection h2 with h2
    injection h2 with _ h2
    cases h2
end
/-- Interval of fields that hold the interval. -/
theorem iv_call (ys : List S50) (lo hi : Int) (N c : Nat) (A : Option Addr) (W : World) (hN : ys.length = N) (hN2 : N ≤ 100) (hs : ∀ x ∈ ys, x.f1.length < 140737488355328 ∧ bytesOk x.f1) (hv : ivV ys = (lo, hi, 0)) (hC : Kd.C k50 W A N ys) (hc : N ≤ c) :
    Calls Try.prog 20 #[.slice A N c] W fun e w' => e = .returned (.tuple #[.agg #[.int .i64 lo, .int .i64 hi], .int .i64 0]) ∧ Below W.heap.size W w' := by
  subst hN
  refine server_Interval.calls 200 A c ys lo hi 0 W hC hc ?_
  rw [interval_eq ys (by omega) hs 200 (by omega), hv]
def AppPost (W : World) (ys : List S50) (e : Ending) (w' : World) : Prop := ∃ B n cb er, e = .returned (.tuple #[.slice B n cb, .int .i64 er]) ∧ (er = 0 → (∀ x ∈ ys, okE x) ∧ (flatE ys).length = n ∧ n ≤ cb ∧ Kd.C (Kd.int .u8) w' B n (flatE ys)) ∧ Below W.heap.size W w'
theorem app_call (ys : List S50) (N c : Nat) (A : Option Addr) (W : World) (hN : ys.length = N) (hN2 : N ≤ 16) (hC : Kd.C k50 W A N ys) (hc : N ≤ c) :
    Calls Try.prog 26 #[.slice none 0 0, .slice A N c] W (AppPost W ys) := by
  subst hN
  obtain ⟨r, er, hf, hz⟩ := append_eq ys hN2 100 (by omega)
  refine (ext_Append.calls 100 none 0 [] A c ys r er W (Kd.C_nil _ _) (Nat.le_refl _) hC hc hf).mono ?_
  rintro e w' ⟨v, rfl, ho, hb⟩
  obtain ⟨B, cb, rfl, hcb, hB⟩ := Kd.R_reads ho
  exact ⟨B, r.length, cb, er, rfl, fun h0 => by obtain ⟨h1, rfl⟩ := hz h0; exact ⟨h1, rfl, hcb, hB⟩, hb⟩
theorem here4 {P : Program} {C : Code} {Q : Exit → Act → World → Prop} {a : Act} {w : World} (I : World → Prop) (h : I w) (H : ∀ w', I w' → Code.wp P C Q a w') : Code.wp P C Q a w := H w h
theorem meas30 {p i : Nat} (h : i < p) : p - (((i + 1 : Nat) : Int)).toNat < p - ((i : Int)).toNat := by omega
theorem meas30' {n : Nat} {j : Int} (h0 : 0 ≤ j) (h : j < (n : Int)) : n - (j + 1).toNat < n - j.toNat := by omega
theorem back30 {i : Nat} (h : i ≤ 6) : wrap64 ((i : Int) + 1) = ((i + 1 : Nat) : Int) := by unfold wrap64; omega
theorem back30' {n : Nat} {j : Int} (hn : n = 16) (h0 : 0 ≤ j) (h : j < (n : Int)) : wrap64 (j + 1) = j + 1 := by unfold wrap64; omega
attribute [local go_sem high] eqA46
attribute [local go_sem] max2_int min2_int max_two min_two
set_option maxHeartbeats 8000000 in
set_option maxRecDepth 100000 in
theorem trip30_walk (lo hi : Int) (A1 : Option Addr) (c1 : Nat) (l1 : List S50) (A2 : Option Addr) (c2 : Nat) (l2 : List S50) (w : World) (hr1 : Hid (Kd.C k50 w A1 l1.length l1)) (hc1 : Hid (l1.length ≤ c1)) (hr2 : Hid (Kd.C k50 w A2 l2.length l2)) (hc2 : Hid (l2.length ≤ c2))
    (hv : chkV lo hi) (p1 p2 : Nat) (hp1 : (if 7 < (l1.length : Int) then 7 else (l1.length : Int)) = (p1 : Int)) (hp2 : (if 7 < (l2.length : Int) then 7 else (l2.length : Int)) = (p2 : Int)) (h17 : p1 ≤ 7) (h27 : p2 ≤ 7) (h1l : p1 ≤ l1.length) (h2l : p2 ≤ l2.length)
    (m1 m2 : List S50) (hm1 : Hid (m1 = l1.take p1)) (hm2 : Hid (m2 = l2.take p2)) (hml1 : Hid (m1.length = p1)) (hml2 : Hid (m2.length = p2)) (hs1 : Hid (∀ x ∈ m1, x.f1.length < 140737488355328 ∧ bytesOk x.f1)) (hs2 : Hid (∀ x ∈ m2, x.f1.length < 140737488355328 ∧ bytesOk x.f1)) :
    Calls Try.prog 8 #[.agg #[.int .i64 lo, .int .i64 hi], .slice A1 l1.length c1, .slice A2 l2.length c2] w fun e w' => e = .returned (.bool true) ∧ Below w.heap.size w w' := by
  obtain ⟨i0, hi0, _, _, _⟩ := info_parts ext_info
  have hcut1 := cut_to (P := Try.prog) 47 50 .i64 Try.underlying47 hi0 A1 l1.length c1 (p1 : Int) (by omega) (by omega) hc1.out
  have hcut2 := cut_to (P := Try.prog) 47 50 .i64 Try.underlying47 hi0 A2 l2.length c2 (p2 : Int) (by omega) (by omega) hc2.out
  rw [Int.toNat_natCast] at hcut1 hcut2
  have HCUT2 := Lib.hid hcut2
  have HP2 := Lib.hid hp2
  have HC1 : Hid (Kd.C k50 w A1 p1 m1) := by
    have := Kd.C_take (m := p1) hr1.out h1l
    rw [← hm1.out, hml1.out] at this
    exact this
  have HC2 : Hid (Kd.C k50 w A2 p2 m2) := by
    have := Kd.C_take (m := p2) hr2.out h2l
    rw [← hm2.out, hml2.out] at this
    exact this
  have HFLD : Hid (server_Field.f lo hi = some (28929, ivB lo hi, 0)) := by
    show _ = _
    rw [field_eq]; unfold fieldV; rw [if_pos hv]; rfl
  have HREAD := Lib.hid (ivB_read lo hi hv)
  have HDL := Lib.hid (ivB_len lo hi)
  have HDB := Lib.hid (ivB_bytes lo hi)
  have HV := Lib.hid hv
  unfold chkV at hv
  have t1 : decide (hi < lo) = false := decide_eq_false (by omega)
  have t2 : decide (lo < -8000000000000000000) = false := decide_eq_false (by omega)
  have t3 : decide (8000000000000000000 < hi) = false := decide_eq_false (by omega)
  have q1 := eq_true (show 0 ≤ (p1 : Int) by omega)
  have q2 := eq_true (show (p1 : Int) ≤ (l1.length : Int) by omega)
  have B0 := Lib.hid (Below.refl w.heap.size w)
  clear hcut2 hp2 hv
  obtain ⟨D, hD⟩ : ∃ D, ivB lo hi = D := ⟨_, rfl⟩
  rw [hD] at HFLD HREAD HDL HDB
  clear hD
  go_enter Try.func8, Try.ntmps8
  go_wp2_with (first
    | ((with_reducible refine gate_dst (N := 3) rfl ?_); refine box_event ?hg (N := 3) ?hd (cs := #[.int .i64 lo, .int .i64 hi]) (t := 46) ?hr ?_; (case hd => rfl); (case hg => rfl); (case hr => first | (go_simp; done) | (go_simp; rfl)); intro g3 hq w1 hbox hb1; have h30 : w.heap.size ≤ g3 := (by omega); have z0 := (blk_cell hbox 0).trans rfl; have z1 := (blk_cell hbox 1).trans rfl; have HB3 := Lib.hid hbox; have HB1 := Lib.hid hb1; have H30 := Lib.hid h30; clear hq hbox hb1 h30)
    | (go_at_call 18; (with_reducible refine (server_Field.calls lo hi _ _ _ _ HFLD.out).mono ?_); rintro e w2 ⟨v, rfl, ho, hb⟩; obtain ⟨Ax, cx, rfl⟩ := Kd.R_slice ho; rw [HDL.out] at ho ⊢; have hsz := HB1.out.size; have hb3 := blk_below HB3.out hb; have hbw := below_step HB1.out hb; have ho2 := Kd.R_lower ho hsz; clear HB3 HB1 z0 z1 hsz; have z0 := (blk_cell hb3 0).trans rfl; have z1 := (blk_cell hb3 1).trans rfl; have HB3 := Lib.hid hb3; have HBW := Lib.hid hbw; have HXR := Lib.hid ho2; clear hb3 hbw ho2 ho hb)
    | ((with_reducible refine gate_dst (N := 7) rfl ?_); refine box_event ?hg (N := 7) ?hd (cs := #[.int .i64 0, .slice none 0 0]) (t := 50) ?hr ?_; (case hd => rfl); (case hg => rfl); (case hr => first | (go_simp; done) | (go_simp; rfl)); intro g7 hq w3 hbox hb1; have hsz := HBW.out.size; have hst : St w ((w3.setCell ⟨g7, 0, none⟩ (.int .i64 28929)).setCell ⟨g7, 1, none⟩ (.slice Ax 16 cx)) lo hi g3 g7 Ax cx D := (by have hb2 := (hb1.setCell (p := ⟨g7, 0, none⟩) (Nat.le_of_eq hq.symm) (.int .i64 28929)).setCell (p := ⟨g7, 1, none⟩) (Nat.le_of_eq hq.symm) (.slice Ax 16 cx); exact ⟨blk_below HB3.out hb2, blk_put (blk_put hbox 0 _ rfl) 1 _ rfl, Kd.R_below HXR.out hb2, below_step HBW.out hb2, H30.out, by omega⟩); have z2 := (blk_cell hbox 0).trans rfl; have z3 := (blk_cell hbox 1).trans rfl; have y2 := blk_frozen hbox 0; have y3 := blk_frozen hbox 1; have HST := Lib.hid hst; replace z0 := (hb1.cell (World.block_lt_of_cell? _ _ z0)).trans z0; replace z1 := (hb1.cell (World.block_lt_of_cell? _ _ z1)).trans z1; have hne : g3 ≠ g7 := (by have := blk_lt HB3.out; omega); clear HB3 HBW HXR hst hq hbox hb1 hsz))
  clear q1 q2 hcut1 hp1 t1 t2 t3
  refine here4 (fun w' => Hid (St w w' lo hi g3 g7 Ax cx D)) HST ?_
  clear HST z0 z1 z2 z3 y2 y3
  intro w4 HST
  go_loopw [9, 64] (fun v9 v64 wr => ∃ (i : Nat) (Al : Option Addr) (n cl : Nat), v64 = .int .i64 (i : Int) ∧ v9 = .slice Al n cl ∧ Hid (i ≤ p1) ∧ Hid (St w wr lo hi g3 g7 Ax cx D) ∧ Hid (Ln w wr g3 g7 (.slice Al n cl) (flt (m1.take i)))) (fun v9 v64 _ => p1 - (intOf v64).toNat)
  case atStart => exact ⟨0, none, 0, 0, rfl, rfl, Nat.zero_le _, HST, (show Kd.N _ _ _ _ _ _ _ by rw [List.take_zero]; exact Kd.N_nil _ _ _ _ _)⟩
  case round =>
    clear HST
    obtain ⟨i, Al, n, cl, rfl, rfl, HI, HST, HL⟩ := hrel
    by_cases hi' : i < p1
    · have ct : decide (i < p1) = true := decide_eq_true hi'
      have hil : i < m1.length := by rw [hml1.out]; exact hi'
      obtain ⟨ad, c, rfl, hcl, hFK, hcc, _⟩ := Kd.F_get (Kd.C_F heap50 HC1.out) z50 (i : Int) (by omega) (by omega)
      rw [Int.toNat_natCast] at hFK hcc
      obtain ⟨x, hx⟩ : ∃ x, m1[i] = x := ⟨_, rfl⟩
      rw [show m1.getD i z50 = x by rw [List.getD_eq_getElem?_getD, List.getElem?_eq_getElem hil, hx]; rfl] at hFK
      obtain ⟨Ad, cd, rfl, hcd, hCd⟩ := k50_open (Kd.FK_now hFK)
      have hx0 : w.cell? (ad.add (i * 2)) = some (.int .i64 x.f0) := hcc 0 _ rfl
      have hx1 : w.cell? ⟨(ad.add (i * 2)).block, (ad.add (i * 2)).off + 1, none⟩ = some (.slice Ad x.f1.length cd) := by rw [← add_field _ _ 1 (by omega)]; exact hcc 1 _ rfl
      replace hx0 := (HST.out.low.cell (World.block_lt_of_cell? w _ hx0)).trans hx0
      replace hx1 := (HST.out.low.cell (World.block_lt_of_cell? w _ hx1)).trans hx1
      have hstep := flt_step m1 i hil
      rw [hx] at hstep
      have e9 : wrap64 ((i : Int) + 1) = ((i + 1 : Nat) : Int) := back30 (Nat.le_of_lt_succ (Nat.lt_of_lt_of_le hi' h17))
      have HI2 : Hid (i + 1 ≤ p1) := hi'
      have HM : Hid (p1 - (((i + 1 : Nat) : Int)).toNat < p1 - ((i : Int)).toNat) := meas30 hi'
      have HFK := Lib.hid hFK
      have HSTEP := Lib.hid hstep
      have HLEN : Hid ((flt (m1.take i)).length ≤ 7 ∧ (flt (m1.take i)).length = n) := ⟨Nat.le_trans (flt_len _) (Nat.le_trans (List.length_take_le _ _) (Nat.le_trans (Nat.le_of_lt hi') h17)), (Kd.N_reads' HL.out).1.symm⟩
      have p4 := eq_true hi'
      clear hstep hFK hcl hcc hx hil hcd hCd HI hi'
      by_cases hk : x.f0 = 28929
      · have tk : (x.f0 != 28929) = false := by simpa using hk
        have HK := Lib.hid hk
        clear hk
        go_wp2_with (first
          | ((with_reducible refine gate_dst (N := 11) rfl ?_); refine box_event ?hg (N := 11) ?hd (cs := #[.int .i64 0, .slice none 0 0]) (t := 50) ?hr ?_; (case hd => rfl); (case hg => rfl); (case hr => first | (go_simp; done) | (go_simp; rfl)); intro q hq wb hbox hb1; have hb2 := (hb1.setCell (p := ⟨q, 0, none⟩) (Nat.le_of_eq hq.symm) (.int .i64 x.f0)).setCell (p := ⟨q, 1, none⟩) (Nat.le_of_eq hq.symm) (.slice Ad x.f1.length cd); have hz0 := (blk_cell hbox 0).trans rfl; have hz1 := (blk_cell hbox 1).trans rfl; have hf0 := blk_frozen hbox 0; have hf1 := blk_frozen hbox 1; replace hx0 := (hb1.cell (World.block_lt_of_cell? _ _ hx0)).trans hx0; replace hx1 := (hb1.cell (World.block_lt_of_cell? _ _ hx1)).trans hx1; have HST2 := Lib.hid (HST.out.below hb2); have HL2 := Lib.hid (Kd.N_below HL.out hb2); clear hq hbox hb1 hb2))
        exact ⟨⟨i + 1, Al, n, cl, by rw [e9], rfl, HI2, HST2, (show Kd.N _ _ _ _ _ _ _ by rw [HSTEP.out, if_pos HK.out]; exact HL2.out)⟩, by rw [e9]; exact HM.out⟩
      · have tk : (x.f0 != 28929) = true := by simpa using hk
        have HK := Lib.hid hk
        clear hk
        go_upto_region 11 with (first
          | ((with_reducible refine gate_dst (N := 11) rfl ?_); refine box_event ?hg (N := 11) ?hd (cs := #[.int .i64 0, .slice none 0 0]) (t := 50) ?hr ?_; (case hd => rfl); (case hg => rfl); (case hr => first | (go_simp; done) | (go_simp; rfl)); intro q hq wb hbox hb1; have hb2 := (hb1.setCell (p := ⟨q, 0, none⟩) (Nat.le_of_eq hq.symm) (.int .i64 x.f0)).setCell (p := ⟨q, 1, none⟩) (Nat.le_of_eq hq.symm) (.slice Ad x.f1.length cd); have hz0 := (blk_cell hbox 0).trans rfl; have hz1 := (blk_cell hbox 1).trans rfl; have hf0 := blk_frozen hbox 0; have hf1 := blk_frozen hbox 1; replace hx0 := (hb1.cell (World.block_lt_of_cell? _ _ hx0)).trans hx0; replace hx1 := (hb1.cell (World.block_lt_of_cell? _ _ hx1)).trans hx1; have HBX := Lib.hid (blk_put (blk_put hbox 0 (.int .i64 x.f0) rfl) 1 (.slice Ad x.f1.length cd) rfl); have HST2 := Lib.hid (HST.out.below hb2); have HL2 := Lib.hid (Kd.N_below HL.out hb2); have HF2 := Lib.hid (Kd.FK_below HFK.out (below_step HST.out.low hb2)); clear hq hbox hb1 hb2))
        refine here4 (fun w' => Hid (w'.heap[q]? = some (.cells #[.int .i64 x.f0, .slice Ad x.f1.length cd] 50 (0, 0))) ∧ Hid (St w w' lo hi g3 g7 Ax cx D) ∧ Hid (Ln w w' g3 g7 (.slice Al n cl) (flt (m1.take i))) ∧ Hid (Kd.FK k50 w' (fun k => k < w.heap.size) x [.int .i64 x.f0, .slice Ad x.f1.length cd])) ⟨HBX, HST2, HL2, HF2⟩ ?_
        clear HBX HST2 HL2 HF2 hz0 hz1 hf0 hf1 hx0 hx1 HST HL HFK
        rintro w7 ⟨HBX, HST2, HL2, HF2⟩
        have hz0 : w7.cell? ⟨q, 0, none⟩ = some (.int .i64 x.f0) := (blk_cell HBX.out 0).trans rfl
        have hz1 : w7.cell? ⟨q, 1, none⟩ = some (.slice Ad x.f1.length cd) := (blk_cell HBX.out 1).trans rfl
        clear HBX
        go_wp2_with (first
          | ((with_reducible refine gate_builtin (b := .append) (xs := #[.tmp 71, .tmp 73]) rfl ?_); at_builtin; refine Kd.N_append k50 (w0 := w) w.heap.size rfl (.tmp 71) (.tmp 73) 47 50 (.agg #[.int .i64 0, .slice none 0 0]) 32 rfl Try.underlying47 ext_info rfl (by decide) (by omega) (.slice Al n cl) (flt (m1.take i)) x [.int .i64 x.f0, .slice Ad x.f1.length cd] (fun k => k ≠ g3 ∧ k ≠ g7) (fun k => k < w.heap.size) rfl rfl HF2.out ?aK ?aN HL2.out HST2.out.low HST2.out.low.size ?aL ?_; (case aK => intro k hk; have h3 := HST2.out.g30; have h7 := HST2.out.g70; exact ⟨⟨by omega, by omega⟩, fun e => by have := Kd.N_base HL2.out k e.symm; omega⟩); (case aN => intro k hk; have h3 := blk_lt HST2.out.b3; have h7 := blk_lt HST2.out.b7; exact ⟨by omega, by omega⟩); (case aL => have := HLEN.out.1; omega); intro v5 w5 ho5 hb5 hg5 _; have hst5 := HST2.out.grown HL2.out hg5 hb5; obtain ⟨A5, c5, rfl⟩ := Kd.N_slice ho5; have HL5 := Lib.hid ho5; have HST5 := Lib.hid hst5; clear ho5 hb5 hg5 hst5 hz0 hz1))
        exact ⟨⟨i + 1, A5, _, c5, by rw [e9], rfl, HI2, HST5, (show Kd.N _ _ _ _ _ _ _ by rw [HSTEP.out, if_neg HK.out]; have h := HL5.out; rw [List.length_append, List.length_singleton] at h; exact h)⟩, by rw [e9]; exact HM.out⟩
    · have ct : decide (i < p1) = false := decide_eq_false hi'
      have hfl : flt (m1.take i) = flt m1 := by rw [List.take_of_length_le (by rw [hml1.out]; omega)]
      rw [hfl] at HL
      have HN : Hid ((flt m1).length = n ∧ n ≤ 7) := by
        have h1 := (Kd.N_reads' HL.out).1
        have h2 := flt_len m1
        have h3 := hml1.out
        exact ⟨h1.symm, by omega⟩
      have hcut2 := HCUT2.out
      have hp2 := HP2.out
      have q1 := eq_true (show 0 ≤ (p2 : Int) by omega)
      have q2 := eq_true (show (p2 : Int) ≤ (l2.length : Int) by omega)
      have HF2 : Hid (Kd.F k50 wr (fun k => k < w.heap.size) A2 p2 m2) := Kd.F_below (Kd.C_F heap50 HC2.out) HST.out.low
      obtain ⟨z0, z1, z2, z3⟩ := HST.out.cells
      have HE := Lib.hid ((HST.out.below (below_drew1 (Below.refl _ _))).elem (kd := 28929) HDL.out (Kd.N_drew HL.out))
      obtain ⟨N5, hN5⟩ : ∃ N5, (flt m1 ++ [(⟨28929, D⟩ : S50)]).length = N5 := ⟨_, rfl⟩
      obtain ⟨N6, hN6⟩ : ∃ N6, (flt m1 ++ [(⟨28929, D⟩ : S50)] ++ m2).length = N6 := ⟨_, rfl⟩
      have HN5 := Lib.hid hN5
      have HN6 := Lib.hid hN6
      clear hfl hi' HI hN5 hN6
      go_upto_region 13 with (fail)
      go_cut [9] (fun v9 wc => ∃ (A6 : Option Addr) (c6 : Nat), v9 = .slice A6 N6 c6 ∧ Hid (St w wc lo hi g3 g7 Ax cx D) ∧ Hid (Ln w wc g3 g7 (.slice A6 N6 c6) (flt m1 ++ [(⟨28929, D⟩ : S50)] ++ m2)))
      case first =>
        go_region_law (first
          | (refine Kd.N_append_step k50 (w0 := w) (W := wr.drew) w.heap.size (by rfl) (.tmp 76) (.tmp 78) 47 50 (.agg #[.int .i64 0, .slice none 0 0]) 32 rfl Try.underlying47 ext_info rfl (by decide) (by omega) (.slice Al n cl) (flt m1) (⟨28929, D⟩ : S50) [.int .i64 28929, .slice Ax 16 cx] (fun k => k ≠ g3 ∧ k ≠ g7) (fun k => some k = (Value.slice Ax 16 cx).ownBlock) rfl rfl HE.out.1 HE.out.2 ?aN (Kd.N_drew HL.out) (below_drew1 HST.out.low) HST.out.low.size ?aL ?_; (case aN => intro k hk; have h3 := blk_lt HST.out.b3; have h7 := blk_lt HST.out.b7; have hs : wr.heap.size ≤ k := hk; exact ⟨by omega, by omega⟩); (case aL => have := HN.out; omega); intro v5 w5 ho5 hb5 hg5 _; have hst5 := (HST.out.below (below_drew1 (Below.refl _ _))).grown (Kd.N_drew HL.out) hg5 hb5; obtain ⟨A5, c5, e5⟩ := Kd.N_slice ho5; rw [HN5.out] at e5; subst e5; have HL5 := Lib.hid ho5; have HST5 := Lib.hid hst5; have HF5 := Lib.hid (Kd.F_grown (Kd.F_drew HF2.out) (W1 := w5) hg5 (fun k hk e => by have := Kd.N_base HL.out k e.symm; omega)); clear ho5 hb5 hg5 hst5)
          | (refine Kd.N_append_rows_step k50 (w0 := w) (W := w5) w.heap.size (by rfl) (.tmp 79) (.tmp 84) 47 50 (.agg #[.int .i64 0, .slice none 0 0]) 32 rfl Try.underlying47 ext_info rfl (by decide) (by omega) (.slice A5 N5 c5) (flt m1 ++ [(⟨28929, D⟩ : S50)]) m2 A2 p2 c2 (fun k => k ≠ g3 ∧ k ≠ g7) (fun k => k < w.heap.size) rfl rfl HL5.out HF5.out ?aK ?aN HST5.out.low HST5.out.low.size ?aL ?_; (case aK => intro k hk; have h3 := HST5.out.g30; have h7 := HST5.out.g70; exact ⟨⟨by omega, by omega⟩, fun e => by have := Kd.N_base HL5.out k e.symm; omega⟩); (case aN => intro k hk; have h3 := blk_lt HST5.out.b3; have h7 := blk_lt HST5.out.b7; exact ⟨by omega, by omega⟩); (case aL => have := HN.out; rw [List.length_append, List.length_singleton]; omega); intro v6 w6 ho6 hb6 hg6 _; have hst6 := HST5.out.grown HL5.out hg6 hb6; obtain ⟨A6, c6, e6⟩ := Kd.N_slice ho6; rw [HN6.out] at e6; subst e6; have HL6 := Lib.hid ho6; have HST6 := Lib.hid hst6; clear ho6 hb6 hg6 hst6))
        all_goals
          go_wp2
          go_meet
          case rel => exact ⟨A6, c6, rfl, HST6, HL6⟩
      case rest =>
        clear HST HL HN HF2 HE z0 z1 z2 z3 hcut2 hp2 q1 q2 HN5
        obtain ⟨A6, c6, rfl, HST, HL⟩ := hcut
        have HIV : Hid (ivV (flt m1 ++ [(⟨28929, D⟩ : S50)] ++ m2) = (lo, hi, 0)) := by
          show _ = _
          rw [iv_found _ _ _ rfl]
          exact HREAD.out
        have HYS : Hid (∀ x ∈ flt m1 ++ [(⟨28929, D⟩ : S50)] ++ m2, x.f1.length < 140737488355328 ∧ bytesOk x.f1) := by
          show ∀ _, _
          intro x hx
          rcases List.mem_append.1 hx with hx | hx
          · rcases List.mem_append.1 hx with hx | hx
            · exact hs1.out x (flt_mem hx)
            · rw [List.mem_singleton] at hx
              subst hx
              exact ⟨by rw [HDL.out]; decide, HDB.out⟩
          · exact hs2.out x hx
        have HN16 : Hid (N6 ≤ 15) := by
          show _ ≤ _
          have h1 := HN6.out
          rw [List.length_append, List.length_append, List.length_singleton, hml2.out] at h1
          have h2 := flt_len m1
          have h3 := hml1.out
          omega
        generalize flt m1 ++ [(⟨28929, D⟩ : S50)] ++ m2 = ys at HL HIV HYS HN6
        obtain ⟨z0, z1, z2, z3⟩ := HST.out.cells
        go_upto_region 17 with (first
          | (go_at_call 20; refine (iv_call ys lo hi N6 c6 A6 _ HN6.out (Nat.le_trans HN16.out (by decide)) HYS.out HIV.out ?aC ?ac).mono ?_; (case aC => have := (Kd.N_reads' HL.out).2.2; rw [HN6.out] at this; exact this); (case ac => exact (Kd.N_reads' HL.out).2.1); rintro e w7 ⟨rfl, hb⟩; have hst := HST.out.below hb; have hl := Kd.N_below HL.out hb; clear HST HL z0 z1 z2 z3; obtain ⟨z0, z1, z2, z3⟩ := hst.cells; have HST := Lib.hid hst; have HL := Lib.hid hl; clear hst hl hb)
          | ((with_reducible refine gate_dst (N := 12) rfl ?_); refine box_event ?hg (N := 12) ?hd (cs := #[.int .i64 0, .int .i64 0]) (t := 46) ?hr ?_; (case hd => rfl); (case hg => rfl); (case hr => first | (go_simp; done) | (go_simp; rfl)); intro q hq wb hbox hb1; have hb2 := (hb1.setCell (p := ⟨q, 0, none⟩) (Nat.le_of_eq hq.symm) (.int .i64 lo)).setCell (p := ⟨q, 1, none⟩) (Nat.le_of_eq hq.symm) (.int .i64 hi); have hst := HST.out.below hb2; have hl := Kd.N_below HL.out hb2; have hst1 := HST.out.below hb1; have y0 := (blk_cell hbox 0).trans rfl; have y1 := (blk_cell hbox 1).trans rfl; have f0 := blk_frozen hbox 0; have f1 := blk_frozen hbox 1; have hne : g3 ≠ q := (by have := blk_lt HST.out.b3; omega); clear HST HL z0 z1 z2 z3; obtain ⟨z0, z1, z2, z3⟩ := hst1.cells; have HST := Lib.hid hst; have HL := Lib.hid hl; clear hst hl hb1 hb2 hst1 hq hbox))
        refine here4 (fun w' => Hid (St w w' lo hi g3 g7 Ax cx D) ∧ Hid (Ln w w' g3 g7 (.slice A6 N6 c6) ys)) ⟨HST, HL⟩ ?_
        clear HST HL z0 z1 z2 z3 y0 y1 f0 f1 hne
        rintro w8 ⟨HST, HL⟩
        go_upto_if 104 with (first
          | (go_at_call 26; refine (app_call ys N6 c6 A6 _ HN6.out (Nat.le_trans HN16.out (by decide)) ?aC ?ac).mono ?_; (case aC => have := (Kd.N_reads' HL.out).2.2; rw [HN6.out] at this; exact this); (case ac => exact (Kd.N_reads' HL.out).2.1); rintro e w9 ⟨B, nb, cb, er, rfl, hap, hb⟩; have hst := HST.out.below hb; clear HST HL; have HST := Lib.hid hst; have HAP := Lib.hid hap; clear hst hap hb))
        go_cut [] from 14 (fun wc => Hid (St w wc lo hi g3 g7 Ax cx D))
        case first =>
          --@FIRST
          by_cases her : er = 0
          · subst her
            obtain ⟨hok, hlen, hcb, hC⟩ := HAP.out rfl
            subst hlen
            have HOK := Lib.hid hok
            have HCB := Lib.hid hcb
            have HC := Lib.hid hC
            clear HAP hok hcb hC
            go_wp2_with (first
              | (go_at_call 27; refine (par_walk ys B cb _ (Nat.le_trans (Nat.le_of_eq HN6.out) (Nat.le_trans HN16.out (by decide))) HOK HC HCB).mono ?_; rintro e w10 ⟨A7, c7, rfl, hc7, hC7, hb⟩; have hst := HST.out.below hb; rw [HN6.out] at hc7 hC7 ⊢; clear HST; have HST := Lib.hid hst; have HC7 := Lib.hid hC7; have HK7 := Lib.hid hc7; clear hst hb hc7 hC7)
              | (go_at_call 20; refine (iv_call ys lo hi N6 c7 A7 _ HN6.out (Nat.le_trans HN16.out (by decide)) HYS.out HIV.out HC7.out HK7.out).mono ?_; rintro e w11 ⟨rfl, hb⟩; have hst := HST.out.below hb; clear HST; obtain ⟨z0, z1, z2, z3⟩ := hst.cells; have HST := Lib.hid hst; clear hst hb)
              | ((with_reducible refine gate_dst (N := 19) rfl ?_); refine box_event ?hg (N := 19) ?hd (cs := #[.int .i64 0, .int .i64 0]) (t := 46) ?hr ?_; (case hd => rfl); (case hg => rfl); (case hr => first | (go_simp; done) | (go_simp; rfl)); intro q2 hq wb2 hbox hb1; have hb2 := (hb1.setCell (p := ⟨q2, 0, none⟩) (Nat.le_of_eq hq.symm) (.int .i64 lo)).setCell (p := ⟨q2, 1, none⟩) (Nat.le_of_eq hq.symm) (.int .i64 hi); have hst := HST.out.below hb2; have hst1 := HST.out.below hb1; have y0 := (blk_cell hbox 0).trans rfl; have y1 := (blk_cell hbox 1).trans rfl; have f0 := blk_frozen hbox 0; have f1 := blk_frozen hbox 1; have hne : g3 ≠ q2 := (by have := blk_lt HST.out.b3; omega); clear HST z0 z1 z2 z3; obtain ⟨z0, z1, z2, z3⟩ := hst1.cells; have HST := Lib.hid hst; clear hst hb1 hb2 hst1 hq hbox))
            go_meet
            case rel => exact HST
          · have te : (er == 0) = false := by simpa using her
            clear her HAP
            go_wp2
            go_meet
            case rel => exact HST
        case rest =>
          --@REST
          clear HST HAP HIV HYS HN6 HN16
          have HST := hcut
          obtain ⟨ny, hny⟩ : ∃ ny, D.length = ny := ⟨_, rfl⟩
          have HNY := Lib.hid hny
          clear hny
          obtain ⟨z0, z1, z2, z3⟩ := HST.out.cells
          go_upto_region 24 with (first
            | (go_at_call 18; (with_reducible refine (server_Field.calls lo hi _ _ _ _ HFLD.out).mono ?_); rintro e w12 ⟨v, rfl, ho, hb⟩; obtain ⟨Ay, cy, rfl⟩ := Kd.R_slice ho; rw [HNY.out] at ho ⊢; have HOY := Lib.hid ho; have HWY := Lib.hid hb; clear ho hb)
            | ((with_reducible refine gate_dst (N := 21) rfl ?_); refine box_event ?hg (N := 21) ?hd (cs := #[.int .i64 0, .slice none 0 0]) (t := 50) ?hr ?_; (case hd => rfl); (case hg => rfl); (case hr => first | (go_simp; done) | (go_simp; rfl)); intro gy hq wb hbox hb1; have hb2 := (hb1.setCell (p := ⟨gy, 0, none⟩) (Nat.le_of_eq hq.symm) (.int .i64 28929)).setCell (p := ⟨gy, 1, none⟩) (Nat.le_of_eq hq.symm) (.slice Ay ny cy); have y2 := (blk_cell hbox 0).trans rfl; have y3 := (blk_cell hbox 1).trans rfl; have f0 := blk_frozen hbox 0; have f1 := blk_frozen hbox 1; have HBY := Lib.hid (blk_put (blk_put hbox 0 (.int .i64 28929) rfl) 1 (.slice Ay ny cy) rfl); have HOY2 := Lib.hid (Kd.R_below HOY.out hb2); have HWY2 := Lib.hid (below_step HWY.out hb2); clear hb1 hb2 hbox hq HOY HWY z0 z1 z2 z3))
          refine here4 (fun w' => Hid (w'.heap[gy]? = some (.cells #[.int .i64 28929, .slice Ay ny cy] 50 (0, 0))) ∧ Hid (Kd.R (Kd.int .u8) 5 w' wc.heap.size (fun _ => True) (.slice Ay ny cy) D) ∧ Hid (Below wc.heap.size wc w')) ⟨HBY, HOY2, HWY2⟩ ?_
          clear HBY HOY2 HWY2 y2 y3 f0 f1 HST
          rintro w13 ⟨HBY, HOY, HWY⟩
          have y3 : w13.cell? ⟨gy, 1, none⟩ = some (.slice Ay ny cy) := (blk_cell HBY.out 1).trans rfl
          go_wp2
          go_loopw [135] (fun v135 wr => ∃ (j : Int) (L : List Int), v135 = .int .i64 j ∧ Hid (0 ≤ j ∧ j ≤ (ny : Int)) ∧ Hid (L.length = ny) ∧ Hid (wr.heap[gy]? = some (.cells #[.int .i64 28929, .slice Ay ny cy] 50 (0, 0))) ∧ Hid (Kd.R (Kd.int .u8) 5 wr wc.heap.size (fun _ => True) (.slice Ay ny cy) L) ∧ Hid (Below wc.heap.size wc wr)) (fun v135 _ => ny - (intOf v135).toNat)
          case atStart => exact ⟨0, _, rfl, ⟨Int.le_refl _, Int.natCast_nonneg _⟩, HNY.out, HBY, HOY, HWY⟩
          case round =>
            clear HBY HOY HWY y3
            obtain ⟨j, L, rfl, HI, HL, HBY, HOY, HWY⟩ := hrel
            have HN16 : Hid (ny = 16) := HNY.out.symm.trans HDL.out
            by_cases hij' : j < (ny : Int)
            · have c5 : decide (j < (ny : Int)) = true := decide_eq_true hij'
              have hij := HI.out
              have e9 : wrap64 (j + 1) = j + 1 := back30' HN16.out hij.1 hij'
              have HI2 : Hid (0 ≤ j + 1 ∧ j + 1 ≤ (ny : Int)) := ⟨Int.add_nonneg hij.1 (by decide), Int.add_one_le_of_lt hij'⟩
              have HM : Hid (ny - (j + 1).toNat < ny - j.toNat) := meas30' hij.1 hij'
              have ho := HOY.out
              have hL := HL.out
              obtain ⟨g1, cg, hv, hg1, hg2, cells, hcl⟩ := Kd.R_form ho (by rw [hL, HN16.out]; decide)
              rw [hL] at hv
              injection hv with hA hn_ hcg
              subst hA hcg
              have hgn : gy ≠ g1 := by
                rintro rfl
                have := HBY.out
                rw [hcl] at this
                injection this with this
                injection this with _ this
                cases this
              obtain ⟨hx, hf⟩ := Kd.R_celln 0 ho j hij.1 hij'
              have y3 : wr.cell? ⟨gy, 1, none⟩ = some (.slice (some ⟨g1, 0, none⟩) ny cy) := (blk_cell HBY.out 1).trans rfl
              have p5 := eq_true hij.1
              have p6 := eq_true hij'
              have HG := Lib.hid hg1
              have HGN := Lib.hid hgn
              clear hij' hij HI ho hg1 hg2 hn_ hcl hgn HN16 ct
              go_wp2
              exact ⟨⟨j + 1, _, by rw [e9], HI2, (by rw [List.length_set]; exact hL : (L.set j.toNat _).length = ny), blk_far HBY.out (p := ⟨g1, j.toNat, none⟩) HGN.out _, Kd.R_putn HOY.out j _, HWY.out.setCell (p := ⟨g1, j.toNat, none⟩) HG.out _⟩, by rw [e9]; exact HM.out⟩
            · have c5 : decide (j < (ny : Int)) = false := decide_eq_false hij'
              have HST := Lib.hid (hcut.out.below HWY.out)
              obtain ⟨z0, z1, z2, z3⟩ := HST.out.cells
              have HFK := Lib.hid (Kd.FK_of_M (k50_mkM wr w.heap.size _ (⟨28929, D⟩ : S50) (Kd.R_tight rfl HST.out.xr)))
              have HDL' := HDL.out
              clear hij' HI HBY HOY HWY HL HN16 ct
              go_wp2_with (first
                | ((with_reducible refine gate_dst (N := 148) rfl ?_); refine Kd.N_lit k50 (w0 := wr) wr.heap.size 50 ?hg (N' := 148) ?hd (xs := [(⟨28929, D⟩ : S50)]) (inner := [.int .i64 28929, .slice Ax 16 cx]) (ok := fun _ => True) (okp := fun k => some k = (Value.slice Ax 16 cx).ownBlock) ?hr ?hp (fun _ _ => trivial) trivial (Below.refl _ _) (Nat.le_refl _) (by simp) ?_; (case hd => rfl); (case hg => rfl); (case hr => first | (go_simp; done) | (go_simp; rfl)); (case hp => refine Reps.snoc (Reps.none _ _) (c := [.int .i64 28929, .slice Ax 16 cx]) ?hk rfl; (case hk => have h := HFK.out; first | exact h | (rw [HDL.out] at h; exact h))); intro v8 w14 ho8 hb8 _ _; obtain ⟨A8, c8, e8⟩ := Kd.N_slice ho8; have e8 : v8 = .slice A8 1 c8 := e8; subst e8; have hst := HST.out.below hb8; clear HST HFK z0 z1 z2 z3; obtain ⟨z0, z1, z2, z3⟩ := hst.cells; have HST := Lib.hid hst; have HO8 := Lib.hid ho8; clear hst ho8 hb8)
                | (go_at_call 20; refine (iv_call [(⟨28929, D⟩ : S50)] lo hi 1 c8 A8 _ rfl (by decide) ?aS ((iv_found [] [] ⟨28929, D⟩ rfl).trans HREAD.out) ?aC ?ac).mono ?_; (case aS => intro x hx; rw [List.mem_singleton] at hx; subst hx; exact ⟨by rw [HDL.out]; decide, HDB.out⟩); (case aC => exact (Kd.N_reads' HO8.out).2.2); (case ac => exact (Kd.N_reads' HO8.out).2.1); rintro e w15 ⟨rfl, hb⟩; have hst := HST.out.below hb; clear HST HO8 z0 z1 z2 z3; obtain ⟨z0, z1, z2, z3⟩ := hst.cells; have HST := Lib.hid hst; clear hst hb)
                | ((with_reducible refine gate_dst (N := 24) rfl ?_); refine box_event ?hg (N := 24) ?hd (cs := #[.int .i64 0, .int .i64 0]) (t := 46) ?hr ?_; (case hd => rfl); (case hg => rfl); (case hr => first | (go_simp; done) | (go_simp; rfl)); intro q2 hq wb2 hbox hb1; have hb2 := (hb1.setCell (p := ⟨q2, 0, none⟩) (Nat.le_of_eq hq.symm) (.int .i64 lo)).setCell (p := ⟨q2, 1, none⟩) (Nat.le_of_eq hq.symm) (.int .i64 hi); have hst := HST.out.below hb2; have hst1 := HST.out.below hb1; have y0 := (blk_cell hbox 0).trans rfl; have y1 := (blk_cell hbox 1).trans rfl; have f0 := blk_frozen hbox 0; have f1 := blk_frozen hbox 1; have hne : g3 ≠ q2 := (by have := blk_lt HST.out.b3; omega); clear HST z0 z1 z2 z3; obtain ⟨z0, z1, z2, z3⟩ := hst1.cells; have HST := Lib.hid hst; clear hst hb1 hb2 hst1 hq hbox)
                | (go_at_call 11; refine (timesynclaw30_awake.calls 100 true _ awk30_ok).mono ?_; rintro e w16 ⟨rfl, hb⟩; have hb2 := below_step HST.out.low hb; have HB := Lib.hid hb2; clear hb hb2))
              go_ret
              exact ⟨rfl, HB.out⟩
end Go.Proofs.Ythneihebdlppeaa.P
