/- The law WireRoundTrip. -/
import Derived.Test.YteiogfmfcmfpjaaXAwk02
import Derived.Test.YteiogfmfcmfpjaaPureTrp02
import Derived.Lib.SliceRun
import Derived.Deep.RegionWith
import Derived.StillTailTactics
namespace Go.Proofs.Yteiogfmfcmfpjaa.P
set_option linter.unusedVariables false
set_option linter.unusedSimpArgs false
open Go.RowKit Go.Proofs.YteiogfmfcmfpjaaW.PrintWords Go.Proofs.YteiogfmfcmfpjaaW.PrintLast Go.Proofs.YteiogfmfcmfpjaaW.PrintMore Go.Proofs.Yteiogfmfcmfpjaa.Rd
attribute [local go_sem] max2_int min2_int max_two min_two

theorem fld_info : (Try.prog.info? 45).map (fun i => (i.zero, i.size, i.bytes)) = some (some (.agg #[.int .u64 0, .int .i64 0]), 2, 16) := by kernel_rfl
theorem clf_some (ad : Addr) (c0 : Nat) (l0 : List S45) (w : World) (hr0 : Kd.C k45 w (some ad) l0.length l0) (hl : l0.length ≤ 200) :
    Calls Try.prog 23 #[.slice (some ad) l0.length c0] w fun e w' => ∃ v0_ : Value, e = .returned v0_ ∧ Kd.R k45 45 w' w.heap.size (fun _ => True) v0_ l0 ∧ Below w.heap.size w w' := by
  have HR := Lib.hid hr0
  have HL := Lib.hid hl
  clear hr0 hl
  have hE := fun w : World => Lib.run_eql_slice_nil (P := Try.prog) w 42 45 (some ad) l0.length c0 0 0 Try.underlying42
  go_enter Try.func23, Try.ntmps23
  go_wp2_with (first
    | ((with_reducible refine gate_dst (N := 5) rfl ?_); refine Kd.R_lit k45 (w0 := w) w.heap.size 45 ?hg (N := 5) ?hd (xs := ([] : List S45)) (inner := []) (ok := fun _ => True) (okp := fun _ => True) ?hr ?hp (fun _ hk => hk) trivial (Below.refl _ _) (Nat.le_refl _) (by simp) ?_; (case hd => rfl); (case hg => rfl); (case hr => first | (go_simp; done) | (go_simp; rfl)); (case hp => exact (Reps.none _ _)); intro v1 w1 ho1 hb1 _ _; have HO := Lib.hid ho1; have HB := Lib.hid hb1; clear ho1 hb1)
    | ((with_reducible refine gate_builtin (b := .append) (xs := #[.tmp 5, .tmp 6]) rfl ?_); at_builtin; refine Kd.R_append_rows k45 (w0 := w) w.heap.size rfl (.tmp 5) (.tmp 6) 42 45 (.agg #[.int .u64 0, .int .i64 0]) 16 rfl Try.underlying42 fld_info rfl (by decide) (by omega) v1 [] l0 _ _ _ (fun _ => True) (fun _ => False) rfl rfl HO.out (Kd.C_below HR.out HB.out) ?aK (fun _ h => h.elim) (fun _ _ => trivial) HB.out HB.out.size ?aL ?_; (case aK => exact fun x cs hx => hx); (case aL => have := HL.out; simp; omega); intro v2 w2 ho2 hb2 _ _; rw [List.nil_append] at ho2; have HO2 := Lib.hid ho2; have HB2 := Lib.hid hb2; clear ho2 hb2))
  go_ret
  exact ⟨_, rfl, HO2.out, HB2.out⟩
theorem clf_none (c0 : Nat) (w : World) :
    Calls Try.prog 23 #[.slice none 0 c0] w fun e w' => e = .returned (.slice none 0 0) ∧ w' = w := by
  have hE := fun w : World => Lib.run_eql_slice_nil (P := Try.prog) w 42 45 none 0 c0 0 0 Try.underlying42
  go_enter Try.func23, Try.ntmps23
  go_wp2
  go_ret
  exact ⟨rfl, rfl⟩
theorem clf (A0 : Option Addr) (c0 p : Nat) (l0 : List S45) (w : World) (hr0 : Kd.C k45 w A0 p l0) (hp : l0.length = p) (hl : p ≤ 200) :
    Calls Try.prog 23 #[.slice A0 p c0] w fun e w' => ∃ v0_ : Value, e = .returned v0_ ∧ Kd.R k45 45 w' w.heap.size (fun _ => True) v0_ l0 ∧ Below w.heap.size w w' := by
  subst hp
  cases A0 with
  | some ad => exact clf_some ad c0 l0 w hr0 hl
  | none =>
    have h0 : l0 = [] := by
      cases l0 with
      | nil => rfl
      | cons x t =>
        obtain ⟨ad, e, _⟩ := hr0.2.2 (by simp)
        cases e
    subst h0
    refine (clf_none c0 w).mono ?_
    rintro e w' ⟨rfl, rfl⟩
    exact ⟨_, rfl, Kd.R_nil _ _ _ _ _, Below.refl _ _⟩
theorem norm_act {K : Exit → Act → World → Prop} {e : Exit} {a : Act} {w : World} (a' : Act) (h : a = a') (H : K e a' w) : K e a w := h ▸ H
theorem here2 {P : Program} {C : Code} {Q : Exit → Act → World → Prop} {a : Act} {w : World} (I : World → Prop) (h : I w) (H : ∀ w', I w' → Code.wp P C Q a w') : Code.wp P C Q a w := H w h
theorem R_upd {α : Type} {d : Kd α} {e base g b : Nat} {w w' : World} {v : Value} {xs : List α} (h : Kd.R d e w base (fun k => k ≠ g ∧ k ≠ b) v xs) (hu : Upd w w' g) : Kd.R d e w' base (fun k => k ≠ g ∧ k ≠ b) v xs := Kd.R_step h (fun k hk hlt => hu.block k hlt hk.1)
theorem shr_run (W : World) (x : Int) (k : Nat) (hk : k ≤ 64) : (Op.shift .shr .u64 x .i64 (k : Int)).run Try.prog W = .ok (.int .u64 (x / 2 ^ k)) W := by
  have hp : (0 : Int) ≤ 2 ^ k := Int.pow_nonneg (by decide)
  have hm : min k IntKind.u64.bits = k := Nat.min_eq_left hk
  unfold Op.shift
  rw [if_neg (by omega)]
  simp only [Int.toNat_natCast, hm]
  rw [Int.fdiv_eq_ediv_of_nonneg _ hp]
  rfl
section
variable {w : World} {base g n cap : Nat} {ok : Nat → Prop} {xs : List S45}
theorem row_cells (h : Kd.R k45 45 w base ok (.slice (some ⟨g, 0, none⟩) n cap) xs) (j : Int) (h0 : 0 ≤ j) (h1 : j < n) {x : S45} (hx : xs[j.toNat]? = some x) :
    w.cell? ⟨g, j.toNat * 2, none⟩ = some (.int .u64 x.f0) ∧ w.cell? ⟨g, j.toNat * 2 + 1, none⟩ = some (.int .i64 x.f1) ∧ w.frozen? ⟨g, j.toNat * 2, none⟩ = false ∧ w.frozen? ⟨g, j.toNat * 2 + 1, none⟩ = false := by
  obtain ⟨ce, hcl, hM, hcc, hfr⟩ := Kd.R_elem h z45 j h0 h1
  have hxy : xs.getD j.toNat z45 = x := by rw [List.getD_eq_getElem?_getD, hx]; rfl
  rw [hxy] at hM
  obtain rfl := k45_openM hM
  exact ⟨hcc 0 _ rfl, hcc 1 _ rfl, hfr 0, hfr 1⟩
theorem row_f1 (h : Kd.R k45 45 w base ok (.slice (some ⟨g, 0, none⟩) n cap) xs) (j : Int) (h0 : 0 ≤ j) (h1 : j < n) {x : S45} (hx : xs[j.toNat]? = some x) (s : Int) :
    Kd.R k45 45 (w.setCell ⟨g, j.toNat * 2 + 1, none⟩ (.int .i64 s)) base ok (.slice (some ⟨g, 0, none⟩) n cap) (xs.set j.toNat ⟨x.f0, s⟩) := by
  obtain ⟨ce, hcl, hM, hcc, hfr⟩ := Kd.R_elem h z45 j h0 h1
  have hxy : xs.getD j.toNat z45 = x := by rw [List.getD_eq_getElem?_getD, hx]; rfl
  rw [hxy] at hM
  obtain rfl := k45_openM hM
  exact (Kd.R_seg h j h0 h1 (seg := [.int .i64 s]) (j := 1) hcl hcc (show 2 ≤ 2 from by decide) (x' := ⟨x.f0, s⟩) (okp := fun k => ok k ∧ k ≠ g) (k45_mkM _ _ _ (⟨x.f0, s⟩ : S45)) (fun _ hk => hk)).1
theorem row_f0 (h : Kd.R k45 45 w base ok (.slice (some ⟨g, 0, none⟩) n cap) xs) (j : Int) (h0 : 0 ≤ j) (h1 : j < n) {x : S45} (hx : xs[j.toNat]? = some x) (u : Int) :
    Kd.R k45 45 (w.setCell ⟨g, j.toNat * 2, none⟩ (.int .u64 u)) base ok (.slice (some ⟨g, 0, none⟩) n cap) (xs.set j.toNat ⟨u, x.f1⟩) := by
  obtain ⟨ce, hcl, hM, hcc, hfr⟩ := Kd.R_elem h z45 j h0 h1
  have hxy : xs.getD j.toNat z45 = x := by rw [List.getD_eq_getElem?_getD, hx]; rfl
  rw [hxy] at hM
  obtain rfl := k45_openM hM
  exact (Kd.R_seg h j h0 h1 (seg := [.int .u64 u]) (j := 0) hcl hcc (show 1 ≤ 2 from by decide) (x' := ⟨u, x.f1⟩) (okp := fun k => ok k ∧ k ≠ g) (k45_mkM _ _ _ (⟨u, x.f1⟩ : S45)) (fun _ hk => hk)).1
/-- The row, the bytes and what lies below, as the loop holds them. -/
structure Both (w0 w : World) (g p cp : Nat) (xs : List S45) (Ab : Option Addr) (n cb : Nat) (bs : List Int) : Prop where
  row : Kd.R k45 45 w w0.heap.size (fun _ => True) (.slice (some ⟨g, 0, none⟩) p cp) xs
  byt : Kd.R (Kd.int .u8) 5 w w0.heap.size (fun _ => True) (.slice Ab n cb) bs
  low : Below w0.heap.size w0 w
variable {w0 : World} {p cp cb : Nat} {Ab : Option Addr} {bs : List Int}
theorem Both.blk (h : Both w0 w g p cp xs Ab n cb bs) : (∃ cells, w.heap[g]? = some (.cells cells 45 (0, 0))) ∧ w0.heap.size ≤ g := ⟨Kd.R_typed h.row g (by simp [Value.ownBlock]), Kd.R_base h.row g (by simp [Value.ownBlock])⟩
theorem Both.f1 (h : Both w0 w g p cp xs Ab n cb bs) (j : Int) (h0 : 0 ≤ j) (h1 : j < p) {x : S45} (hx : xs[j.toNat]? = some x) (s : Int) : Both w0 (w.setCell ⟨g, j.toNat * 2 + 1, none⟩ (.int .i64 s)) g p cp (xs.set j.toNat ⟨x.f0, s⟩) Ab n cb bs := by
  obtain ⟨⟨cells, hc⟩, hg⟩ := h.blk
  exact ⟨row_f1 h.row j h0 h1 hx s, Kd.R_set h.byt hc (by intro q hq; simp [Kd.int, Kd.scalar] at hq; omega) _ _, h.low.setCell hg _⟩
theorem Both.f0 (h : Both w0 w g p cp xs Ab n cb bs) (j : Int) (h0 : 0 ≤ j) (h1 : j < p) {x : S45} (hx : xs[j.toNat]? = some x) (u : Int) : Both w0 (w.setCell ⟨g, j.toNat * 2, none⟩ (.int .u64 u)) g p cp (xs.set j.toNat ⟨u, x.f1⟩) Ab n cb bs := by
  obtain ⟨⟨cells, hc⟩, hg⟩ := h.blk
  exact ⟨row_f0 h.row j h0 h1 hx u, Kd.R_set h.byt hc (by intro q hq; simp [Kd.int, Kd.scalar] at hq; omega) _ _, h.low.setCell hg _⟩
theorem Both.drew (h : Both w0 w g p cp xs Ab n cb bs) : Both w0 w.drew g p cp xs Ab n cb bs := ⟨Kd.R_drew h.row, Kd.R_drew h.byt, below_drew1 h.low⟩
end
/-- The reader beside the row and the bytes. -/
structure Two (w0 w : World) (g b : Nat) (all rest : List Int) (A1 : Option Addr) (p cp : Nat) (xs : List S45) (Ab : Option Addr) (n cb : Nat) (bs : List Int) : Prop where
  rd : RdA w0 w g b all rest 0
  row : Kd.R k45 45 w w0.heap.size (fun k => k ≠ g ∧ k ≠ b) (.slice A1 p cp) xs
  byt : Kd.R (Kd.int .u8) 5 w w0.heap.size (fun k => k ≠ g ∧ k ≠ b) (.slice Ab n cb) bs
/-- .. and a cell of a field. -/
structure Three (w0 w : World) (g b : Nat) (all rest : List Int) (A1 : Option Addr) (p cp : Nat) (xs : List S45) (Ab : Option Addr) (n cb : Nat) (bs : List Int) (q : Nat) (v0 v1 : Value) : Prop where
  rd : RdA w0 w g b all rest 0
  row : Kd.R k45 45 w w0.heap.size (fun k => (k ≠ g ∧ k ≠ b) ∧ k ≠ q) (.slice A1 p cp) xs
  byt : Kd.R (Kd.int .u8) 5 w w0.heap.size (fun k => (k ≠ g ∧ k ≠ b) ∧ k ≠ q) (.slice Ab n cb) bs
  box : w.heap[q]? = some (.cells #[v0, v1] 45 (0, 0))
  qg : q ≠ g
  qb : q ≠ b
  q0 : w0.heap.size ≤ q
section
variable {w0 w w' : World} {g b p cp n cb q : Nat} {all rest bs : List Int} {A1 Ab : Option Addr} {xs : List S45} {v0 v1 : Value}
theorem Two.three (h : Two w0 w g b all rest A1 p cp xs Ab n cb bs) (hq : q = w.heap.size) (hbox : w'.heap[q]? = some (.cells #[v0, v1] 45 (0, 0))) (hb : Below w.heap.size w w') : Three w0 w' g b all rest A1 p cp xs Ab n cb bs q v0 v1 := by
  have hg := h.rd.g_lt
  have hbl := h.rd.b_lt
  have hs := h.rd.low.size
  refine ⟨h.rd.below' hb, Kd.R_mono (Kd.R_below (Kd.R_bound h.row) hb) (fun k hk => ⟨hk.1, ?_⟩), Kd.R_mono (Kd.R_below (Kd.R_bound h.byt) hb) (fun k hk => ⟨hk.1, ?_⟩), hbox, by omega, by omega, by omega⟩
  · have := hk.2.2.1; omega
  · have := hk.2.2.1; omega
theorem Three.two (h : Three w0 w g b all rest A1 p cp xs Ab n cb bs q v0 v1) : Two w0 w g b all rest A1 p cp xs Ab n cb bs := ⟨h.rd, Kd.R_mono h.row (fun _ hk => hk.1), Kd.R_mono h.byt (fun _ hk => hk.1)⟩
theorem Three.below (h : Three w0 w g b all rest A1 p cp xs Ab n cb bs q v0 v1) (hb : Below w.heap.size w w') : Three w0 w' g b all rest A1 p cp xs Ab n cb bs q v0 v1 :=
  ⟨h.rd.below' hb, Kd.R_below h.row hb, Kd.R_below h.byt hb, blk_below h.box hb, h.qg, h.qb, h.q0⟩
theorem Three.set (h : Three w0 w g b all rest A1 p cp xs Ab n cb bs q v0 v1) (u0 u1 : Value) : Three w0 ((w.setCell ⟨q, 0, none⟩ u0).setCell ⟨q, 1, none⟩ u1) g b all rest A1 p cp xs Ab n cb bs q u0 u1 :=
  ⟨(h.rd.upd (Upd.set _ q 0 _) h.q0 h.qg.symm h.qb.symm).upd (Upd.set _ q 1 _) h.q0 h.qg.symm h.qb.symm, Kd.R_far (Kd.R_far h.row (fun k hk => hk.2) _) (fun k hk => hk.2) _, Kd.R_far (Kd.R_far h.byt (fun k hk => hk.2) _) (fun k hk => hk.2) _, blk_put (blk_put h.box 0 u0 rfl) 1 u1 rfl, h.qg, h.qb, h.q0⟩
theorem Three.drew (h : Three w0 w g b all rest A1 p cp xs Ab n cb bs q v0 v1) : Three w0 w.drew g b all rest A1 p cp xs Ab n cb bs q v0 v1 := h.below (below_drew1 (Below.refl _ _))
theorem Three.uint (h : Three w0 w g b all rest A1 p cp xs Ab n cb bs q v0 v1) (s : Int) {y : Int} {r : List Int} (hu : uintS rest 0 s = (y, r, 0)) :
    Calls Try.prog 17 #[.pointer (some ⟨g, 0, none⟩), .int .i64 s] w fun e w' => e = .returned (.int .u64 y) ∧ Three w0 w' g b all r A1 p cp xs Ab n cb bs q v0 v1 := by
  refine (RdA.uint h.rd s).mono ?_
  rintro e w' ⟨rfl, hd, hup⟩
  rw [hu] at hd ⊢
  exact ⟨rfl, hd, Kd.R_step h.row (fun k hk _ => hup.block k ‹_› hk.1.1), Kd.R_step h.byt (fun k hk _ => hup.block k ‹_› hk.1.1), (hup.block q (blk_lt h.box) h.qg).trans h.box, h.qg, h.qb, h.q0⟩
theorem Three.cells (h : Three w0 w g b all rest A1 p cp xs Ab n cb bs q v0 v1) : w.cell? ⟨q, 0, none⟩ = some v0 ∧ w.cell? ⟨q, 1, none⟩ = some v1 ∧ w.frozen? ⟨q, 0, none⟩ = false ∧ w.frozen? ⟨q, 1, none⟩ = false := ⟨(blk_cell h.box 0).trans rfl, (blk_cell h.box 1).trans rfl, blk_frozen h.box 0, blk_frozen h.box 1⟩
end
set_option maxHeartbeats 4000000 in
set_option maxRecDepth 100000 in
theorem trip_walk (A0 : Option Addr) (c0 : Nat) (l0 : List S45) (w : World) (hr0 : Hid (Kd.C k45 w A0 l0.length l0)) (hc0 : Hid (l0.length ≤ c0)) (p : Nat) (l : List S45) (hp : (if 200 < (l0.length : Int) then 200 else (l0.length : Int)) = (p : Int)) (hp2 : p ≤ 200) (hpl : p ≤ l0.length) (hl : Hid (l = l0.take p)) (hll : Hid (l.length = p)) (hwf : Hid (∀ x ∈ l, 0 ≤ x.f0 ∧ x.f0 < 18446744073709551616)) :
    Calls Try.prog 6 #[.slice A0 l0.length c0] w fun e w' => e = .returned (.bool true) ∧ Below w.heap.size w w' := by
  obtain ⟨i0, hi0, _, _, _⟩ := info_parts fld_info
  have hcut := cut_to (P := Try.prog) 42 45 .i64 Try.underlying42 hi0 A0 l0.length c0 (p : Int) (by omega) (by omega) hc0.out
  rw [Int.toNat_natCast] at hcut
  have HC : Hid (Kd.C k45 w A0 p l) := by
    have := Kd.C_take (m := p) hr0.out hpl
    rw [← hl.out, hll.out] at this
    exact this
  have q1 := eq_true (show 0 ≤ (p : Int) by omega)
  have q2 := eq_true (show (p : Int) ≤ (l0.length : Int) by omega)
  go_enter Try.func6, Try.ntmps6
  go_wp2_with (first
    | (go_at_call 23; refine (clf A0 c0 p l _ HC.out hll.out hp2).mono ?_; rintro e w1 ⟨v1, rfl, ho1, hb⟩; obtain ⟨A1, cp1, rfl, hcp1, hC1⟩ := Kd.R_reads ho1; rw [hll.out] at ho1 ⊢; have HO := Lib.hid ho1; have HB := Lib.hid hb; clear ho1 hb hC1 hcp1))
  clear q1 q2 hcut hp
  go_loopw [3, 21] (fun v3 v21 wr => ∃ (j : Int) (Ab : Option Addr) (n cb : Nat), v21 = .int .i64 j ∧ v3 = .slice Ab n cb ∧ Hid (0 ≤ j ∧ j ≤ (p : Int)) ∧ Hid (n = (flat (l.take j.toNat)).length ∧ n ≤ cb) ∧ Hid (Kd.R (Kd.int .u8) 5 wr w.heap.size (fun _ => True) (.slice Ab n cb) (flat (l.take j.toNat))) ∧ Hid (Kd.R k45 45 wr w.heap.size (fun _ => True) (.slice A1 p cp1) (rowF l j.toNat)) ∧ Hid (Below w.heap.size w wr)) (fun v3 v21 _ => p - (intOf v21).toNat)
  case atStart => exact ⟨0, none, 0, 0, rfl, rfl, ⟨Int.le_refl _, by omega⟩, ⟨by simp [flat], Nat.le_refl _⟩, (show Kd.R _ _ _ _ _ _ _ by simp only [Int.toNat_zero, List.take_zero]; exact Kd.R_nil _ _ _ _ _), (show Kd.R _ _ _ _ _ _ _ by rw [Int.toNat_zero, rowF_zero]; exact HO.out), HB⟩
  case round =>
    clear HO HB
    obtain ⟨j, Ab, n, cb, rfl, rfl, HJ, HN, HBy, HO, HB⟩ := hrel
    obtain ⟨hn, hcb⟩ := HN.out
    subst hn
    have HCB := Lib.hid hcb
    clear HN hcb
    by_cases hi : j < (p : Int)
    · have c1 : decide (j < (p : Int)) = true := decide_eq_true hi
      have hij := HJ.out
      have hjl : j.toNat < l.length := by rw [hll.out]; omega
      obtain ⟨x, s, y, hr⟩ := round_ok l (by rw [hll.out]; exact hp2) hwf.out j.toNat hjl
      have hrd : rd_T45 (rowF l j.toNat) j = x := by unfold rd_T45; rw [List.getD_eq_getElem?_getD, hr.row]; rfl
      obtain ⟨g1, cg, hv, hg1, hg2, cells, hblk⟩ := Kd.R_form HO.out (by rw [rowF_len]; omega)
      rw [rowF_len, hll.out] at hv
      injection hv with hA hn_ hcg
      subst hA hcg
      obtain ⟨hx0, hx1, hf0, hf1⟩ := row_cells HO.out j hij.1 hi hr.row
      have HBO : Hid (Both w wr g1 p cp1 (rowF l j.toNat) Ab (flat (l.take j.toNat)).length cb (flat (l.take j.toNat))) := ⟨HO.out, HBy.out, HB.out⟩
      have HB1 := Lib.hid (HBO.out.f1 j hij.1 hi hr.row (s : Int))
      have hjx : ((rowF l j.toNat).set j.toNat ⟨x.f0, (s : Int)⟩)[j.toNat]? = some ⟨x.f0, (s : Int)⟩ := List.getElem?_set_self (List.getElem?_eq_some_iff.1 hr.row).1
      have HJX := Lib.hid hjx
      clear HO HBy HB HBO hjx
      have p3 := eq_true hij.1
      have p4 := eq_true hi
      have e1 := hr.e1
      have e2 := hr.e2
      have e3 := hr.e3
      have e4 := hr.e4
      have HRD := Lib.hid hr
      have HG := Lib.hid hg1
      have HJI : Hid (0 ≤ j ∧ j < (p : Int)) := ⟨hij.1, hi⟩
      clear hjl hi hij HJ hrd hn_ hblk hg1 hg2 hr
      go_wp2
      refine here2 (fun w' => Hid (Both w w' g1 p cp1 ((rowF l j.toNat).set j.toNat ⟨x.f0, (s : Int)⟩) Ab (flat (l.take j.toNat)).length cb (flat (l.take j.toNat)))) HB1 ?_
      clear HB1 hx0 hx1 hf0 hf1
      intro w2 HB2
      have hb1 := HB2.out.drew.f0 j HJI.out.1 HJI.out.2 HJX.out y
      rw [List.set_set, show (⟨y, (⟨x.f0, (s : Int)⟩ : S45).f1⟩ : S45) = ⟨y, (s : Int)⟩ from rfl, HRD.out.set] at hb1
      have HB1 := Lib.hid hb1
      clear hb1
      obtain ⟨hx0, hx1, hf0, hf1⟩ := row_cells HB2.out.row j HJI.out.1 HJI.out.2 HJX.out
      clear HB2
      have hsh : ∀ W : World, (Op.shift .shr .u64 x.f0 .i64 (IntKind.i64.wrap (64 - IntKind.i64.wrap (8 * (s : Int))))).run Try.prog W = .ok (.int .u64 y) W := by
        intro W
        rw [i64_w, i64_w, e3, e4, shr_run W x.f0 (64 - 8 * s) (Nat.le_trans (Nat.sub_le _ _) (by decide)), HRD.out.div]
      clear e1 e2 e3 e4
      dsimp only at hx0 hx1
      go_still_tail 15, (by kernel_rfl)
      change wpList _ _ _ _ _ w2.drew
      go_wp2
      refine here2 (fun w' => Hid (Both w w' g1 p cp1 (rowF l (j.toNat + 1)) Ab (flat (l.take j.toNat)).length cb (flat (l.take j.toNat)))) HB1 ?_
      clear HB1 hx0 hx1 hf0 hf1 hsh HJX
      intro w3 HB3
      have HB1 := Lib.hid HB3.out.drew
      have hjy : (rowF l (j.toNat + 1))[j.toNat]? = some ⟨y, (s : Int)⟩ := by rw [← HRD.out.set]; exact List.getElem?_set_self (List.getElem?_eq_some_iff.1 HRD.out.row).1
      obtain ⟨hx0, hx1, hf0, hf1⟩ := row_cells HB3.out.row j HJI.out.1 HJI.out.2 hjy
      have HJY := Lib.hid hjy
      clear HB3 hjy
      dsimp only at hx0 hx1
      have e3 : IntKind.i64.wrap (((flat (l.take j.toNat)).length : Int) + (s : Int)) = (((flat (l.take (j.toNat + 1))).length : Nat) : Int) := by
        have h1 := HRD.out.len
        have h2 := HRD.out.small
        have h3 := HRD.out.s8
        rw [i64_w, h1, sw _ (by omega) (by omega)]
        omega
      have e4 : wrap64 (j + 1) = j + 1 := sw _ (by have := HJI.out; omega) (by have := HJI.out; omega)
      have HL4 : Hid (0 ≤ j + 1 ∧ j + 1 ≤ (p : Int)) := ⟨by have := HJI.out; omega, by have := HJI.out; omega⟩
      have HM : Hid (p - (j + 1).toNat < p - j.toNat) := (by have := HJI.out; omega : p - (j + 1).toNat < p - j.toNat)
      have HT : Hid ((j + 1).toNat = j.toNat + 1) := (by have := HJI.out; omega : (j + 1).toNat = j.toNat + 1)
      go_region_with (first
        | (go_at_call 14; (with_reducible refine (wire_Append.calls Ab cb (flat (l.take j.toNat)) y s (flat (l.take (j.toNat + 1))) 0 _ ?aC HCB.out HRD.out.app).mono ?_); (case aC => exact (Kd.R_reads' HB1.out.byt).2.2); rintro e w4 ⟨v4, rfl, ho4, hb4⟩; obtain ⟨A4, c4, rfl, hc4, hC4⟩ := Kd.R_reads ho4; have hrow := Kd.R_below HB1.out.row hb4; have hby := Kd.R_lower ho4 HB1.out.low.size; have hlo := below_step HB1.out.low hb4; clear HB1 hx0 hx1 hf0 hf1 hC4 ho4 hb4; have HB4 : Hid (Both w w4 g1 p cp1 (rowF l (j.toNat + 1)) A4 (flat (l.take (j.toNat + 1))).length c4 (flat (l.take (j.toNat + 1)))) := ⟨hrow, hby, hlo⟩; have HC4 := Lib.hid hc4; clear hrow hby hlo hc4; obtain ⟨hx0, hx1, hf0, hf1⟩ := row_cells HB4.out.row j HJI.out.1 HJI.out.2 HJY.out; dsimp only at hx0 hx1))
      all_goals
        go_wp2
        exact ⟨⟨j + 1, A4, _, c4, by rw [e4], rfl, HL4, ⟨by rw [HT.out], HC4.out⟩, (show Kd.R _ _ _ _ _ _ _ by rw [HT.out]; exact HB4.out.byt), (show Kd.R _ _ _ _ _ _ _ by rw [HT.out]; exact HB4.out.row), HB4.out.low⟩, by rw [e4]; exact HM.out⟩
    · have c1 : decide (j < (p : Int)) = false := decide_eq_false hi
      have hfl : flat (l.take j.toNat) = flat l := by rw [List.take_of_length_le (by have := hll.out; have := HJ.out; omega)]
      have hrow : rowF l j.toNat = l.map fixF := by
        have : j.toNat = l.length := by have := hll.out; have := HJ.out; omega
        rw [this, rowF_all]
      have hsm : (flat l).length ≤ 1600 := by have := flat_len l; have := hll.out; omega
      rw [hfl] at HBy HCB ⊢
      rw [hrow] at HO
      have HSM := Lib.hid hsm
      clear hfl hrow hi HJ hsm
      go_wp2_with (first
        | (go_at_call 15; refine (RdA.new (w0 := w) HB.out (Kd.R_reads' HBy.out).2.2 HCB.out (Nat.le_trans HSM.out (by decide)) (flat_bytes l)).mono ?_; rintro e w3 ⟨g, b, rfl, hd, hlo, hg3, hb3⟩; have h2 : Two w w3 g b (flat l) (flat l) A1 p cp1 (l.map fixF) Ab (flat l).length cb (flat l) := ⟨hd, Kd.R_mono (Kd.R_below (Kd.R_bound HO.out) hlo) (fun k hk => by have := hk.2.2.1; exact ⟨by omega, by omega⟩), Kd.R_mono (Kd.R_below (Kd.R_bound HBy.out) hlo) (fun k hk => by have := hk.2.2.1; exact ⟨by omega, by omega⟩)⟩; clear HO HB HBy hd hlo hg3 hb3; have H2 := Lib.hid h2; clear h2))
      clear c1
      go_loopw [8, 90] (fun v8 v90 wr => ∃ (i : Int), v90 = .int .i64 i ∧ v8 = .int .i64 ((flat (l.take i.toNat)).length : Int) ∧ Hid (0 ≤ i ∧ i ≤ (p : Int)) ∧ Hid (Two w wr g b (flat l) (flat (l.drop i.toNat)) A1 p cp1 (l.map fixF) Ab (flat l).length cb (flat l))) (fun v8 v90 _ => p - (intOf v90).toNat)
      case atStart => exact ⟨0, rfl, rfl, ⟨Int.le_refl _, by omega⟩, H2⟩
      case round =>
        clear H2
        obtain ⟨i, rfl, rfl, HJ, H2⟩ := hrel
        by_cases hii : i < (p : Int)
        · have c1 : decide (i < (p : Int)) = true := decide_eq_true hii
          have hij := HJ.out
          have hjl : i.toNat < l.length := by rw [hll.out]; omega
          obtain ⟨x, s, y, hr⟩ := round_ok l (by rw [hll.out]; exact hp2) hwf.out i.toNat hjl
          obtain ⟨g1, cg, hv, hg1, hg2, cells, hblk⟩ := Kd.R_form H2.out.row (by rw [List.length_map]; omega)
          rw [List.length_map, hll.out] at hv
          injection hv with hA hn_ hcg
          subst hA hcg
          obtain ⟨hx0, hx1, hf0, hf1⟩ := row_cells H2.out.row i hij.1 hii hr.fin
          dsimp only at hx0 hx1
          have p3 := eq_true hij.1
          have p4 := eq_true hii
          have e4 : wrap64 (i + 1) = i + 1 := sw _ (by omega) (by omega)
          have e5 : wrap64 (((flat (l.take i.toNat)).length : Int) + (s : Int)) = (((flat (l.take (i.toNat + 1))).length : Nat) : Int) := by
            have h1 := hr.len
            have h2 := hr.small
            have h3 := hr.s8
            rw [h1, sw _ (by omega) (by omega)]
            omega
          have HL4 : Hid (0 ≤ i + 1 ∧ i + 1 ≤ (p : Int)) := ⟨by omega, by omega⟩
          have HM : Hid (p - (i + 1).toNat < p - i.toNat) := (by omega : p - (i + 1).toNat < p - i.toNat)
          have HT : Hid ((i + 1).toNat = i.toNat + 1) := (by omega : (i + 1).toNat = i.toNat + 1)
          have HRD := Lib.hid hr
          clear hjl hii hij HJ hn_ hblk hg1 hg2 hr
          go_wp2_with (first
            | ((with_reducible refine gate_dst (N := 10) rfl ?_); refine box_event ?hg (N := 10) ?hd (cs := #[.int .u64 0, .int .i64 0]) (t := 45) ?hr ?_; (case hd => rfl); (case hg => rfl); (case hr => first | (go_simp; done) | (go_simp; rfl)); intro q hq wb hbox hb1; have h3 := H2.out.three hq hbox hb1; obtain ⟨hz0, hz1, hg0, hg1⟩ := h3.cells; clear H2 hq hbox hb1 hx0 hx1 hf0 hf1; have H3 := Lib.hid h3; clear h3)
            | (go_at_call 11; (with_reducible refine (wire_Get.calls 10 Ab cb (flat l) _ _ y 0 _ ?aC HCB.out HRD.out.get).mono ?_); (case aC => exact (Kd.R_reads' (H3.out.set _ _).byt).2.2); rintro e w5 ⟨rfl, hb5⟩; have h3 := (H3.out.set (.int .u64 y) (.int .i64 (s : Int))).below hb5.below; clear H3 hz0 hz1 hg0 hg1 hb5; have H3 := Lib.hid h3; obtain ⟨hz0, hz1, hg0, hg1⟩ := h3.cells; clear h3))
          go_region_with (first
            | (go_at_call 17; (with_reducible refine (Three.uint H3.out.drew _ HRD.out.uint).mono ?_); rintro e w6 ⟨rfl, h3⟩; clear H3 hz0 hz1 hg0 hg1; have H3 := Lib.hid h3; obtain ⟨hz0, hz1, hg0, hg1⟩ := h3.cells; clear h3))
          all_goals
            refine norm_act ⟨#[Value.slice (some { block := g1, off := 0 }) p cp1, undef, u2, Value.slice Ab (flat l).length cb, u4, u5, u6, Value.pointer (some { block := g, off := 0 }), Value.int IntKind.i64 ↑(flat (List.take i.toNat l)).length, undef, Value.pointer (some { block := q, off := 0 }), Value.int IntKind.u64 y, Value.int IntKind.i64 0, Value.slice A0 l0.length c0, Value.slice A0 l0.length c0, Value.int IntKind.i64 ↑l0.length, Value.int IntKind.i64 ↑p, Value.slice A0 p c0, Value.slice (some { block := g1, off := 0 }) p cp1, Value.slice (some { block := g1, off := 0 }) p cp1, Value.int IntKind.i64 ↑p, Value.int IntKind.i64 j, Value.bool false, u23, u24, u25, u26, u27, u28, u29, u30, u31, u32, u33, u34, u35, u36, u37, u38, u39, u40, u41, u42, u43, u44, u45, u46, u47, u48, u49, u50, u51, u52, u53, u54, u55, u56, u57, u58, u59, u60, u61, u62, u63, u64, u65, u66, u67, u68, u69, u70, u71, u72, u73, u74, u75, u76, u77, u78, u79, u80, u81, u82, u83, Value.slice Ab (flat l).length cb, Value.pointer (some { block := g, off := 0 }), Value.pointer (some { block := g, off := 0 }), Value.bool false, Value.slice (some { block := g1, off := 0 }) p cp1, Value.int IntKind.i64 ↑p, Value.int IntKind.i64 i, Value.bool true, Value.pointer (some { block := g1, off := i.toNat * 2 }), Value.agg #[Value.int IntKind.u64 y, Value.int IntKind.i64 ↑s], Value.tuple #[Value.int IntKind.u64 y, Value.int IntKind.i64 0], Value.slice Ab (flat l).length cb, Value.int IntKind.i64 ↑(flat (List.take i.toNat l)).length, Value.pointer (some { block := q, off := 1 }), Value.int IntKind.i64 ↑s, Value.tuple #[Value.int IntKind.u64 y, Value.int IntKind.i64 0], Value.int IntKind.u64 y, Value.int IntKind.i64 0, Value.pointer (some { block := g, off := 0 }), Value.pointer (some { block := q, off := 1 }), Value.int IntKind.i64 ↑s, Value.int IntKind.u64 y, Value.pointer (some { block := q, off := 0 }), Value.int IntKind.u64 y, Value.bool false, Value.bool false, Value.int IntKind.u64 y, Value.pointer (some { block := q, off := 0 }), Value.int IntKind.u64 y, .bool false, .bool false, .bool false, .int .i64 0, .bool false, .bool false, u119, u120, u121, u122, u123, undef, undef, undef, undef, undef, undef, undef, undef, undef, undef, undef], []⟩ (by kernel_rfl) ?_
            go_wp2
            exact ⟨⟨i + 1, by rw [e4], by rw [e5, HT.out], HL4, (show Two _ _ _ _ _ _ _ _ _ _ _ _ _ _ by rw [HT.out]; exact H3.out.two)⟩, by rw [e4]; exact HM.out⟩
        · have c1 : decide (i < (p : Int)) = false := decide_eq_false hii
          have hd : l.drop i.toNat = [] := List.drop_of_length_le (by have := hll.out; have := HJ.out; omega)
          have HR : Hid (RdA w wr g b (flat l) [] 0) := by
            have := H2.out.rd
            rw [hd] at this
            exact this
          clear hd hii HJ H2
          go_wp2_with (first
            | (go_at_call 18; (with_reducible refine (RdA.left HR.out).mono ?_); rintro e wq ⟨rfl, rfl⟩)
            | (go_at_call 19; (with_reducible refine (RdA.err HR.out).mono ?_); rintro e wq ⟨rfl, rfl⟩)
            | (go_at_call 13; refine (awake_true _).mono ?_; rintro e wz ⟨rfl, hb⟩; have hb2 := below_step HR.out.low hb; have HB := Lib.hid hb2; clear hb hb2))
          go_ret
          exact ⟨rfl, HB.out⟩
/-- What the law answers at numbers of their kinds. -/
def timesynclaw02_WireRoundTrip.f (l0 : List S45) : Option Bool := if ∀ x ∈ l0, 0 ≤ x.f0 ∧ x.f0 < 18446744073709551616 then some true else none
theorem timesynclaw02_WireRoundTrip.calls (A0 : Option Addr) (c0 : Nat) (l0 : List (S45)) (r : Bool) (w : World) (hr0 : Kd.C k45 w A0 l0.length l0) (hc0 : l0.length ≤ c0) (h : timesynclaw02_WireRoundTrip.f l0 = some r) :
    Calls Try.prog 6 #[.slice A0 l0.length c0] w fun e w' => e = .returned (.bool r) ∧ Below w.heap.size w w' := by
  unfold timesynclaw02_WireRoundTrip.f at h
  split at h
  · rename_i hx
    obtain rfl := Option.some.inj h
    refine trip_walk A0 c0 l0 w hr0 hc0 (min l0.length 200) (l0.take (min l0.length 200)) ?_ (by omega) (by omega) rfl ?_ ?_
    · split <;> omega
    · show (l0.take _).length = _
      rw [List.length_take]; omega
    · show ∀ x ∈ l0.take _, _
      exact fun x hm => hx x (List.mem_of_mem_take hm)
  · cases h
end Go.Proofs.Yteiogfmfcmfpjaa.P
