/- The law WireReads. -/
import Derived.Test.YteiogfmfcmfpjaaXApt02
import Derived.Test.YteiogfmfcmfpjaaXRi02
namespace Go.Proofs.Yteiogfmfcmfpjaa.P
set_option linter.unusedVariables false
set_option linter.unusedSimpArgs false
open Go.RowKit Go.Proofs.YteiogfmfcmfpjaaW.PrintWords Go.Proofs.YteiogfmfcmfpjaaW.PrintLast Go.Proofs.YteiogfmfcmfpjaaW.PrintMore Go.Proofs.Yteiogfmfcmfpjaa.Rd

/-- Both readers, side by side. -/
structure Duo (w0 w : World) (g b g2 : Nat) (all r1 : List Int) (e1 : Int) (r2 : List Int) (e2 : Int) : Prop where
  rd : RdA w0 w g b all r1 e1
  sd : Sd w0 w (fun k => k = g) g2 r2 e2
  ne : g ≠ g2
  nb : b ≠ g2
  g20 : w0.heap.size ≤ g2
  small : r1.length ≤ 5000
/-- .. and a cell of a call. -/
structure Trio (w0 w : World) (g b g2 : Nat) (all r1 : List Int) (e1 : Int) (r2 : List Int) (e2 : Int) (q : Nat) (v0 v1 : Value) : Prop where
  rd : RdA w0 w g b all r1 e1
  sd : Sd w0 w (fun k => k = g ∨ k = q) g2 r2 e2
  ne : g ≠ g2
  nb : b ≠ g2
  g20 : w0.heap.size ≤ g2
  small : r1.length ≤ 5000
  box : w.heap[q]? = some (.cells #[v0, v1] 52 (0, 0))
  qg : q ≠ g
  qb : q ≠ b
  q2 : q ≠ g2
  q0 : w0.heap.size ≤ q
section
variable {w0 w w' : World} {g b g2 q : Nat} {all r1 r2 : List Int} {e1 e2 : Int} {v0 v1 : Value}
theorem Duo.below (h : Duo w0 w g b g2 all r1 e1 r2 e2) (hb : Below w.heap.size w w') : Duo w0 w' g b g2 all r1 e1 r2 e2 := ⟨h.rd.below' hb, h.sd.below hb, h.ne, h.nb, h.g20, h.small⟩
theorem Trio.below (h : Trio w0 w g b g2 all r1 e1 r2 e2 q v0 v1) (hb : Below w.heap.size w w') : Trio w0 w' g b g2 all r1 e1 r2 e2 q v0 v1 := ⟨h.rd.below' hb, h.sd.below hb, h.ne, h.nb, h.g20, h.small, blk_below h.box hb, h.qg, h.qb, h.q2, h.q0⟩
theorem Trio.drew (h : Trio w0 w g b g2 all r1 e1 r2 e2 q v0 v1) : Trio w0 w.drew g b g2 all r1 e1 r2 e2 q v0 v1 := h.below (below_drew1 (Below.refl _ _))
theorem Trio.duo (h : Trio w0 w g b g2 all r1 e1 r2 e2 q v0 v1) : Duo w0 w g b g2 all r1 e1 r2 e2 := ⟨h.rd, h.sd.less (fun _ hk => .inl hk), h.ne, h.nb, h.g20, h.small⟩
theorem Duo.trio (h : Duo w0 w g b g2 all r1 e1 r2 e2) (hq : q = w.heap.size) (hbox : w'.heap[q]? = some (.cells #[v0, v1] 52 (0, 0))) (hb : Below w.heap.size w w') : Trio w0 w' g b g2 all r1 e1 r2 e2 q v0 v1 := by
  have h1 := h.rd.g_lt
  have h2 := h.rd.b_lt
  have h3 := h.sd.lt
  have h4 := h.rd.low.size
  exact ⟨h.rd.below' hb, h.sd.more hq hb, h.ne, h.nb, h.g20, h.small, hbox, by omega, by omega, by omega, by omega⟩
theorem Trio.set (h : Trio w0 w g b g2 all r1 e1 r2 e2 q v0 v1) (u0 u1 : Value) : Trio w0 ((w.setCell ⟨q, 0, none⟩ u0).setCell ⟨q, 1, none⟩ u1) g b g2 all r1 e1 r2 e2 q u0 u1 :=
  ⟨(h.rd.upd (Upd.set _ q 0 _) h.q0 h.qg.symm h.qb.symm).upd (Upd.set _ q 1 _) h.q0 h.qg.symm h.qb.symm, (h.sd.upd (.inr rfl) (Upd.set _ q 0 _) h.q0).upd (.inr rfl) (Upd.set _ q 1 _) h.q0, h.ne, h.nb, h.g20, h.small, blk_put (blk_put h.box 0 u0 rfl) 1 u1 rfl, h.qg, h.qb, h.q2, h.q0⟩
theorem takeS_small (rest : List Int) (er n : Int) (ok : Bool) (h : rest.length ≤ 5000) : (takeS rest er n ok).2.1.length ≤ 5000 := by
  unfold takeS
  split
  · exact h
  · split
    · exact h
    · split
      · exact h
      · rw [List.length_drop]; omega
theorem uintS_small (rest : List Int) (er n : Int) (h : rest.length ≤ 5000) : (uintS rest er n).2.1.length ≤ 5000 := by
  have := takeS_small rest er n (rightS n) h
  unfold uintS
  split <;> (rename_i he; rw [he] at this; exact this)
theorem intS_small (rest : List Int) (er n : Int) (h : rest.length ≤ 5000) : (intS rest er n).2.1.length ≤ 5000 := by
  have := takeS_small rest er n (rightS n) h
  unfold intS
  split <;> (rename_i he; rw [he] at this; exact this)
theorem bytesS_small (rest : List Int) (er n : Int) (h : rest.length ≤ 5000) : (bytesS rest er n).2.1.length ≤ 5000 ∧ (bytesS rest er n).1.length ≤ 5000 := by
  have h1 := takeS_small rest er n (decide (0 ≤ n)) h
  unfold bytesS
  split
  · rename_i he
    rw [he] at h1
    exact ⟨h1, Nat.zero_le _⟩
  · rename_i he
    rw [he] at h1
    refine ⟨h1, ?_⟩
    obtain ⟨rfl, _⟩ := takeS_some he
    exact Nat.le_trans (List.length_take_le' _ _) h
theorem skipS_small (rest : List Int) (er n : Int) (h : rest.length ≤ 5000) : (skipS rest er n).1.length ≤ 5000 := takeS_small rest er n _ h
/-- The first reader's calls, the second's. -/
theorem Trio.one (h : Trio w0 w g b g2 all r1 e1 r2 e2 q v0 v1) {r' : List Int} {e' : Int} (hd : RdA w0 w' g b all r' e') (hu : Upd w w' g) (hs : r'.length ≤ 5000) : Trio w0 w' g b g2 all r' e' r2 e2 q v0 v1 :=
  ⟨hd, h.sd.upd (.inl rfl) hu h.rd.g0, h.ne, h.nb, h.g20, hs, (hu.block q (blk_lt h.box) h.qg).trans h.box, h.qg, h.qb, h.q2, h.q0⟩
theorem Trio.two (h : Trio w0 w g b g2 all r1 e1 r2 e2 q v0 v1) {r' : List Int} {e' : Int} (hd : Sd w0 w' (fun k => k = g ∨ k = q) g2 r' e') (hu : Upd w w' g2) : Trio w0 w' g b g2 all r1 e1 r' e' q v0 v1 :=
  ⟨h.rd.upd hu h.g20 h.ne h.nb, hd, h.ne, h.nb, h.g20, h.small, (hu.block q (blk_lt h.box) h.q2).trans h.box, h.qg, h.qb, h.q2, h.q0⟩
theorem Trio.uint1 (h : Trio w0 w g b g2 all r1 e1 r2 e2 q v0 v1) (n : Int) : Calls Try.prog 17 #[.pointer (some ⟨g, 0, none⟩), .int .i64 n] w fun e w' => e = .returned (.int .u64 (uintS r1 e1 n).1) ∧ Trio w0 w' g b g2 all (uintS r1 e1 n).2.1 (uintS r1 e1 n).2.2 r2 e2 q v0 v1 :=
  (RdA.uint h.rd n).mono fun _ _ ⟨e, hd, hu⟩ => ⟨e, h.one hd hu (uintS_small _ _ _ h.small)⟩
theorem Trio.uint2 (h : Trio w0 w g b g2 all r1 e1 r2 e2 q v0 v1) (n : Int) : Calls Try.prog 26 #[.pointer (some ⟨g2, 0, none⟩), .int .i64 n] w fun e w' => e = .returned (.int .u64 (uintS r2 e2 n).1) ∧ Trio w0 w' g b g2 all r1 e1 (uintS r2 e2 n).2.1 (uintS r2 e2 n).2.2 q v0 v1 :=
  (Sd.uint h.sd n).mono fun _ _ ⟨e, hd, hu⟩ => ⟨e, h.two hd hu⟩
theorem Trio.int1 (h : Trio w0 w g b g2 all r1 e1 r2 e2 q v0 v1) (n : Int) : Calls Try.prog 16 #[.pointer (some ⟨g, 0, none⟩), .int .i64 n] w fun e w' => e = .returned (.int .i64 (intS r1 e1 n).1) ∧ Trio w0 w' g b g2 all (intS r1 e1 n).2.1 (intS r1 e1 n).2.2 r2 e2 q v0 v1 :=
  (RdA.int h.rd n).mono fun _ _ ⟨e, hd, hu⟩ => ⟨e, h.one hd hu (intS_small _ _ _ h.small)⟩
theorem Trio.int2 (h : Trio w0 w g b g2 all r1 e1 r2 e2 q v0 v1) (n : Int) : Calls Try.prog 27 #[.pointer (some ⟨g2, 0, none⟩), .int .i64 n] w fun e w' => e = .returned (.int .i64 (intS r2 e2 n).1) ∧ Trio w0 w' g b g2 all r1 e1 (intS r2 e2 n).2.1 (intS r2 e2 n).2.2 q v0 v1 :=
  (Sd.int h.sd n).mono fun _ _ ⟨e, hd, hu⟩ => ⟨e, h.two hd hu⟩
theorem Trio.skip1 (h : Trio w0 w g b g2 all r1 e1 r2 e2 q v0 v1) (n : Int) : Calls Try.prog 30 #[.pointer (some ⟨g, 0, none⟩), .int .i64 n] w fun e w' => e = .returned (.tuple #[]) ∧ Trio w0 w' g b g2 all (skipS r1 e1 n).1 (skipS r1 e1 n).2 r2 e2 q v0 v1 :=
  (RdA.skip h.rd n).mono fun _ _ ⟨e, hd, hu⟩ => ⟨e, h.one hd hu (skipS_small _ _ _ h.small)⟩
theorem Trio.skip2 (h : Trio w0 w g b g2 all r1 e1 r2 e2 q v0 v1) (n : Int) : Calls Try.prog 31 #[.pointer (some ⟨g2, 0, none⟩), .int .i64 n] w fun e w' => e = .returned (.tuple #[]) ∧ Trio w0 w' g b g2 all r1 e1 (skipS r2 e2 n).1 (skipS r2 e2 n).2 q v0 v1 :=
  (Sd.skip h.sd n).mono fun _ _ ⟨e, hd, hu⟩ => ⟨e, h.two hd hu⟩
/-- Bytes of the first reader: a row that none of the second's calls turns. -/
def Got1 (w0 : World) (g b g2 : Nat) (all r1 : List Int) (e1 : Int) (r2 : List Int) (e2 : Int) (q : Nat) (v0 v1 : Value) (X : List Int) (e : Ending) (w' : World) : Prop := ∃ A c, e = .returned (.slice A X.length c) ∧ X.length ≤ c ∧ Kd.R (Kd.int .u8) 5 w' w0.heap.size (fun k => k ≠ g2) (.slice A X.length c) X ∧ Trio w0 w' g b g2 all r1 e1 r2 e2 q v0 v1
theorem Trio.bytes1 (h : Trio w0 w g b g2 all r1 e1 r2 e2 q v0 v1) (n : Int) : Calls Try.prog 28 #[.pointer (some ⟨g, 0, none⟩), .int .i64 n] w (Got1 w0 g b g2 all (bytesS r1 e1 n).2.1 (bytesS r1 e1 n).2.2 r2 e2 q v0 v1 (bytesS r1 e1 n).1) := by
  refine (RdA.bytes h.rd n).mono ?_
  rintro e w' ⟨A, c, rfl, hc, hC, hd, hu, ho⟩
  have hlt := h.sd.lt
  have hsz := h.rd.low.size
  exact ⟨A, c, rfl, hc, Kd.R_lower (d := Kd.int .u8) (Kd.R_of_own (ok := fun k => k ≠ g2) ho (fun k hk => by have := own_base ho k hk; omega)) hsz, h.one hd hu (bytesS_small _ _ _ h.small).1⟩
def Got2 (w0 : World) (g b g2 : Nat) (all r1 : List Int) (e1 : Int) (r2 : List Int) (e2 : Int) (q : Nat) (v0 v1 : Value) (A1 : Option Addr) (c1 : Nat) (X Y : List Int) (e : Ending) (w' : World) : Prop := ∃ A c, e = .returned (.slice A Y.length c) ∧ Y.length ≤ c ∧ Kd.C (Kd.int .u8) w' A Y.length Y ∧ Kd.C (Kd.int .u8) w' A1 X.length X ∧ Trio w0 w' g b g2 all r1 e1 r2 e2 q v0 v1
theorem Trio.bytes2 (h : Trio w0 w g b g2 all r1 e1 r2 e2 q v0 v1) {A1 : Option Addr} {c1 : Nat} {X : List Int} (hX : Kd.R (Kd.int .u8) 5 w w0.heap.size (fun k => k ≠ g2) (.slice A1 X.length c1) X) (n : Int) : Calls Try.prog 29 #[.pointer (some ⟨g2, 0, none⟩), .int .i64 n] w (Got2 w0 g b g2 all r1 e1 (bytesS r2 e2 n).2.1 (bytesS r2 e2 n).2.2 q v0 v1 A1 c1 X (bytesS r2 e2 n).1) := by
  refine (Sd.bytes h.sd n).mono ?_
  rintro e w' ⟨v, rfl, ho, hd, hu⟩
  obtain ⟨A, c, rfl, hc, hC⟩ := Kd.R_reads ho
  exact ⟨A, c, rfl, hc, hC, (Kd.R_reads' (Kd.R_step hX (fun k hk hlt => hu.block k hlt hk))).2.2, h.two hd hu⟩
theorem Trio.cells (h : Trio w0 w g b g2 all r1 e1 r2 e2 q v0 v1) : w.cell? ⟨q, 0, none⟩ = some v0 ∧ w.cell? ⟨q, 1, none⟩ = some v1 ∧ w.frozen? ⟨q, 0, none⟩ = false ∧ w.frozen? ⟨q, 1, none⟩ = false := ⟨(blk_cell h.box 0).trans rfl, (blk_cell h.box 1).trans rfl, blk_frozen h.box 0, blk_frozen h.box 1⟩
end
theorem here3 {P : Program} {C : Code} {Q : Exit → Act → World → Prop} {a : Act} {w : World} (I : World → Prop) (h : I w) (H : ∀ w', I w' → Code.wp P C Q a w') : Code.wp P C Q a w := H w h
set_option maxHeartbeats 8000000 in
set_option maxRecDepth 100000 in
theorem reads_walk (A0 : Option Addr) (c0 : Nat) (l0 : List Int) (A1 : Option Addr) (c1 : Nat) (l1 : List S52) (w : World) (hr0 : Hid (Kd.C (Kd.int .u8) w A0 l0.length l0)) (hc0 : Hid (l0.length ≤ c0)) (hr1 : Hid (Kd.C k52 w A1 l1.length l1)) (hc1 : Hid (l1.length ≤ c1))
    (hok : Hid (bytesOk l0)) (hlen : decide (5000 < (l0.length : Int)) = false) (hlen2 : Hid (l0.length ≤ 5000)) (p : Nat) (hp : Hid (min l1.length 200 = p)) :
    Calls Try.prog 7 #[.slice A0 l0.length c0, .slice A1 l1.length c1] w fun e w' => e = .returned (.bool true) ∧ Below w.heap.size w w' := by
  go_enter Try.func7, Try.ntmps7
  go_wp2_with (first
    | (go_at_call 15; refine (RdA.new (w0 := w) (Below.refl _ _) hr0.out hc0.out (by have := hlen2.out; omega) hok.out).mono ?_; rintro e w3 ⟨g, b, rfl, hd, hlo, hg3, hb3⟩; have HD := Lib.hid hd; have HLO := Lib.hid hlo; clear hd hg3 hb3 hlo)
    | (go_at_call 24; refine (Sd.new (w0 := w) (x := fun k => k = g) HD.out.low (Kd.C_below hr0.out HLO.out) (by have := hlen2.out; omega) hok.out (fun k hk => by have := HD.out.g_lt; omega)).mono ?_; rintro e w4 ⟨g2, rfl, hs, hlo, hg4⟩; have hgl := HD.out.g_lt; have hbl := HD.out.b_lt; have hsz := HD.out.low.size; have hduo : Duo w w4 g b g2 l0 l0 0 l0 0 := ⟨HD.out.below' hlo, hs, by omega, by omega, by omega, hlen2.out⟩; have HU := Lib.hid hduo; clear hs hlo hg4 hgl hbl hsz hduo HD HLO)
    | (go_at_call 18; (with_reducible refine (RdA.left HU.out.rd).mono ?_); rintro e wq ⟨rfl, rfl⟩)
    | (go_at_call 19; (with_reducible refine (RdA.err HU.out.rd).mono ?_); rintro e wq ⟨rfl, rfl⟩)
    | (go_at_call 25; refine (first_c A1 l1.length c1 hc1.out _).mono ?_; rintro e w6 ⟨rfl, rfl⟩; rw [hp.out]))
  clear hlen
  go_loopw [35] (fun v35 wr => ∃ (j : Int) (rest : List Int) (er : Int), v35 = .int .i64 j ∧ Hid (0 ≤ j ∧ j ≤ (p : Int)) ∧ Hid (Duo w wr g b g2 l0 rest er rest er)) (fun v35 _ => p - (intOf v35).toNat)
  case atStart => exact ⟨0, l0, 0, rfl, ⟨Int.le_refl _, by omega⟩, HU⟩
  case round =>
    clear HU
    obtain ⟨j, rest, er, rfl, HJ, HU⟩ := hrel
    by_cases hi : j < (p : Int)
    · have ct : decide (j < (p : Int)) = true := decide_eq_true hi
      have hij := HJ.out
      have hp3 := hp.out
      have e9 : wrap64 (j + 1) = j + 1 := by unfold wrap64; omega
      have HJ2 : Hid (0 ≤ j + 1 ∧ j + 1 ≤ (p : Int)) := ⟨by omega, by omega⟩
      have HM : Hid (p - (j + 1).toNat < p - j.toNat) := (by omega : p - (j + 1).toNat < p - j.toNat)
      obtain ⟨ad, e, hx0, hx1⟩ := at_T52 hr1.out j (by omega) (by omega)
      cases e
      replace hx0 := (HU.out.rd.low.cell (World.block_lt_of_cell? w _ hx0)).trans hx0
      replace hx1 := (HU.out.rd.low.cell (World.block_lt_of_cell? w _ hx1)).trans hx1
      have p1 := eq_true hij.1
      have p2 := eq_true hi
      clear hi hij HJ hp3
      generalize (rd_T52 l1 j).f0 = kd at hx0
      generalize (rd_T52 l1 j).f1 = N at hx1
      go_upto_block 2 with (first
        | ((with_reducible refine gate_dst (N := 8) rfl ?_); refine box_event ?hg (N := 8) ?hd (cs := #[.int .i64 0, .int .i64 0]) (t := 52) ?hr ?_; (case hd => rfl); (case hg => rfl); (case hr => first | (go_simp; done) | (go_simp; rfl)); intro q hq wb hbox hb1; have h3 := HU.out.trio hq hbox hb1; obtain ⟨hz0, hz1, hf0, hf1⟩ := h3.cells; replace hx0 := (hb1.cell (World.block_lt_of_cell? _ _ hx0)).trans hx0; replace hx1 := (hb1.cell (World.block_lt_of_cell? _ _ hx1)).trans hx1; clear HU hq hbox hb1; have H3 := Lib.hid h3; clear h3))
      refine here3 (fun w' => Hid (Trio w w' g b g2 l0 rest er rest er q (.int .i64 kd) (.int .i64 N))) (Lib.hid (H3.out.set _ _)) ?_
      clear H3 hz0 hz1 hf0 hf1 hx0 hx1
      intro w7 H3
      go_cut [9] (fun v9 wc => ∃ (r' : List Int) (e' : Int), v9 = .bool true ∧ Hid (Trio w wc g b g2 l0 r' e' r' e' q (.int .i64 kd) (.int .i64 N)))
      case first =>
        obtain ⟨hz0, hz1, hf0, hf1⟩ := H3.out.cells
        by_cases k0 : kd = 0
        · subst k0
          go_wp2
          go_region_with (first
            | (go_at_call 17; (with_reducible refine (Trio.uint1 H3.out.drew N).mono ?_); rintro e w8 ⟨rfl, h4⟩; clear H3 hz0 hz1 hf0 hf1; have H3 := Lib.hid h4; obtain ⟨hz0, hz1, hf0, hf1⟩ := h4.cells; clear h4)
            | (go_at_call 26; (with_reducible refine (Trio.uint2 H3.out N).mono ?_); rintro e w8 ⟨rfl, h4⟩; clear H3 hz0 hz1 hf0 hf1; have H3 := Lib.hid h4; obtain ⟨hz0, hz1, hf0, hf1⟩ := h4.cells; clear h4))
          all_goals
            go_wp2
            go_meet
            case rel => exact ⟨_, _, rfl, H3⟩
        have n0 : (kd == 0) = false := by simpa using k0
        clear k0
        by_cases k1 : kd = 1
        · subst k1
          clear n0
          go_wp2
          go_region_with (first
            | (go_at_call 16; (with_reducible refine (Trio.int1 H3.out.drew N).mono ?_); rintro e w8 ⟨rfl, h4⟩; clear H3 hz0 hz1 hf0 hf1; have H3 := Lib.hid h4; obtain ⟨hz0, hz1, hf0, hf1⟩ := h4.cells; clear h4)
            | (go_at_call 27; (with_reducible refine (Trio.int2 H3.out N).mono ?_); rintro e w8 ⟨rfl, h4⟩; clear H3 hz0 hz1 hf0 hf1; have H3 := Lib.hid h4; obtain ⟨hz0, hz1, hf0, hf1⟩ := h4.cells; clear h4))
          all_goals
            go_wp2
            go_meet
            case rel => exact ⟨_, _, rfl, H3⟩
        have n1 : (kd == 1) = false := by simpa using k1
        clear k1
        by_cases k2 : kd = 2
        · subst k2
          clear n0 n1
          obtain ⟨X, rest2, er2, hbs⟩ : ∃ X r e, bytesS rest er N = (X, r, e) := ⟨_, _, _, rfl⟩
          have hXL := (bytesS_small rest er N H3.out.small).2
          rw [hbs] at hXL
          have HXL := Lib.hid hXL
          have HBS := Lib.hid hbs
          clear hXL hbs
          go_wp2
          go_region_with (first
            | (go_at_call 28; (with_reducible refine (Trio.bytes1 H3.out.drew N).mono ?_); rintro e w8 ⟨A5, c5, rfl, hc5, hR5, h4⟩; rw [HBS.out] at hc5 hR5 h4 ⊢; dsimp only at hc5 hR5 h4 ⊢; clear H3 hz0 hz1 hf0 hf1; have H3 := Lib.hid h4; have HR5 := Lib.hid hR5; have HC5 := Lib.hid hc5; obtain ⟨hz0, hz1, hf0, hf1⟩ := h4.cells; clear h4 hR5 hc5)
            | (go_at_call 29; (with_reducible refine (Trio.bytes2 H3.out HR5.out N).mono ?_); rintro e w8 ⟨A6, c6, rfl, hc6, hC6, hC5, h4⟩; rw [HBS.out] at hc6 hC6 h4 ⊢; dsimp only at hc6 hC6 h4 ⊢; clear H3 hz0 hz1 hf0 hf1; have H3 := Lib.hid h4; have HK5 := Lib.hid hC5; have HK6 := Lib.hid hC6; have HC6 := Lib.hid hc6; obtain ⟨hz0, hz1, hf0, hf1⟩ := h4.cells; clear h4 hC5 hC6 hc6)
            | (go_at_call 22; (with_reducible refine (eq_call X X.length rfl HXL.out A5 A6 c5 c6 _ HK5.out HC5.out HK6.out HC6.out).mono ?_); rintro e w9 ⟨rfl, hb9⟩; have h4 := H3.out.below hb9; clear H3 HK5 HK6 HR5 hz0 hz1 hf0 hf1; have H3 := Lib.hid h4; obtain ⟨hz0, hz1, hf0, hf1⟩ := h4.cells; clear h4 hb9))
          all_goals
            go_wp2
            go_meet
            case rel => exact ⟨_, _, rfl, H3⟩
        have n2 : (kd == 2) = false := by simpa using k2
        clear k2
        by_cases k3 : kd = 3
        · subst k3
          clear n0 n1 n2
          go_wp2_with (first
            | (go_at_call 30; (with_reducible refine (Trio.skip1 H3.out N).mono ?_); rintro e w8 ⟨rfl, h4⟩; clear H3 hz0 hz1 hf0 hf1; have H3 := Lib.hid h4; obtain ⟨hz0, hz1, hf0, hf1⟩ := h4.cells; clear h4)
            | (go_at_call 31; (with_reducible refine (Trio.skip2 H3.out N).mono ?_); rintro e w8 ⟨rfl, h4⟩; clear H3 hz0 hz1 hf0 hf1; have H3 := Lib.hid h4; obtain ⟨hz0, hz1, hf0, hf1⟩ := h4.cells; clear h4))
          go_meet
          case rel => exact ⟨_, _, rfl, H3⟩
        · have n3 : (kd == 3) = false := by simpa using k3
          clear k3
          go_wp2
          go_meet
          case rel => exact ⟨_, _, rfl, H3⟩
      case rest =>
        clear H3
        obtain ⟨r', e', rfl, H4⟩ := hcut
        go_wp2_with (first
          | (go_at_call 18; (with_reducible refine (RdA.left H4.out.rd).mono ?_); rintro e wq ⟨rfl, rfl⟩)
          | (go_at_call 32; (with_reducible refine (Sd.left H4.out.sd).mono ?_); rintro e wq ⟨rfl, rfl⟩)
          | (go_at_call 19; (with_reducible refine (RdA.err H4.out.rd).mono ?_); rintro e wq ⟨rfl, rfl⟩)
          | (go_at_call 33; (with_reducible refine (Sd.err H4.out.sd).mono ?_); rintro e wq ⟨rfl, rfl⟩))
        exact ⟨⟨j + 1, r', e', by rw [e9], HJ2, Lib.hid H4.out.duo⟩, by rw [e9]; exact HM.out⟩
    · have ct : decide (j < (p : Int)) = false := decide_eq_false hi
      clear hi HJ
      go_wp2_with (first
        | (go_at_call 13; refine (awake_true _).mono ?_; rintro e w9 ⟨rfl, hb9⟩; have hb := below_step HU.out.rd.low hb9; have HB := Lib.hid hb; clear hb hb9))
      go_ret
      exact ⟨rfl, HB.out⟩
theorem reads_long (A0 : Option Addr) (c0 : Nat) (l0 : List Int) (A1 : Option Addr) (c1 n1 : Nat) (w : World) (hlen : decide (5000 < (l0.length : Int)) = true) :
    Calls Try.prog 7 #[.slice A0 l0.length c0, .slice A1 n1 c1] w fun e w' => e = .returned (.bool true) ∧ Below w.heap.size w w' := by
  go_enter Try.func7, Try.ntmps7
  go_wp2_with (first
    | (go_at_call 13; refine (awake_true _).mono ?_; rintro e w9 ⟨rfl, hb9⟩; have HB := Lib.hid hb9; clear hb9))
  go_ret
  exact ⟨rfl, HB.out⟩
/-- What the law answers at bytes. -/
def timesynclaw02_WireReads.f (l0 : List Int) (l1 : List S52) : Option Bool := if ∀ x ∈ l0, 0 ≤ x ∧ x ≤ 255 then some true else none
theorem timesynclaw02_WireReads.calls (A0 : Option Addr) (c0 : Nat) (l0 : List Int) (A1 : Option Addr) (c1 : Nat) (l1 : List (S52)) (r : Bool) (w : World) (hr0 : Kd.C (Kd.int .u8) w A0 l0.length l0) (hc0 : l0.length ≤ c0) (hr1 : Kd.C k52 w A1 l1.length l1) (hc1 : l1.length ≤ c1) (h : timesynclaw02_WireReads.f l0 l1 = some r) :
    Calls Try.prog 7 #[.slice A0 l0.length c0, .slice A1 l1.length c1] w fun e w' => e = .returned (.bool r) ∧ Below w.heap.size w w' := by
  unfold timesynclaw02_WireReads.f at h
  split at h
  · rename_i hb
    obtain rfl := Option.some.inj h
    by_cases hl : (l0.length : Int) > 5000
    · exact reads_long A0 c0 l0 A1 c1 l1.length w (decide_eq_true hl)
    · exact reads_walk A0 c0 l0 A1 c1 l1 w hr0 hc0 hr1 hc1 hb (decide_eq_false hl) (show l0.length ≤ 5000 by omega) _ rfl
  · cases h
end Go.Proofs.Yteiogfmfcmfpjaa.P
