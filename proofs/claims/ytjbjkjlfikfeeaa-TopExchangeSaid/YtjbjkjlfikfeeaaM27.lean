/- Texts of this claim, laid together: each says itself what it proves. -/
import Derived.Test.YtjbjkjlfikfeeaaM5
import Derived.Test.YtjbjkjlfikfeeaaM26
import Derived.Test.YtjbjkjlfikfeeaaM23
import Derived.Test.YtjbjkjlfikfeeaaM21
import Derived.Test.YtjbjkjlfikfeeaaM25
import Derived.Test.YtjbjkjlfikfeeaaM15
import Derived.Test.YtjbjkjlfikfeeaaM17
import Derived.Test.YtjbjkjlfikfeeaaM16
import Derived.LoopN
import Derived.Test.YtjbjkjlfikfeeaaM1
/- timesynctop.reply: the bytes of a server's reply with its interval. -/
namespace Go.Proofs.Ytjbjkjlfikfeeaa.P
set_option linter.unusedVariables false
set_option linter.unusedSimpArgs false
open Go.RowKit Go.Proofs.YtjbjkjlfikfeeaaW.PrintWords Go.Proofs.YtjbjkjlfikfeeaaW.PrintLast Go.Proofs.YtjbjkjlfikfeeaaW.PrintMore Go.Proofs.Ytjbjkjlfikfeeaa.Rd
def reqL (n : Int) : List Value := [.int .i64 0, .int .i64 4, .int .i64 3, .int .i64 0, .int .i64 0, .int .i64 0, .int .u32 0, .int .u32 0, .int .u32 0, .int .u64 0, .int .u64 0, .int .u64 0, .int .u64 n]
def repL (n rec xmt : Int) : List Value := [.int .i64 0, .int .i64 4, .int .i64 4, .int .i64 1, .int .i64 0, .int .i64 (-20), .int .u32 0, .int .u32 1, .int .u32 5, .int .u64 0, .int .u64 n, .int .u64 rec, .int .u64 xmt]
def rootL : List Value := [.int .i64 1, .int .i64 0, .int .i64 1000, .int .u32 5]
def ivL (lo hi : Int) : List Value := [.int .i64 lo, .int .i64 hi]
/-- The bytes of the reply. -/
def repB (n rec xmt lo hi : Int) : List Int := hdr 0 4 4 1 0 (-20) 0 1 5 0 n rec xmt ++ encE (ivF lo hi)
theorem below_put13 {N : Nat} {w W : World} {q : Nat} (h : Below N w W) (hq : N ≤ q) {a0 a1 a2 a3 a4 a5 a6 a7 a8 a9 a10 a11 a12 : Value} : Below N w (put13 W q a0 a1 a2 a3 a4 a5 a6 a7 a8 a9 a10 a11 a12) := ((((((((((((h.setCell (p := ⟨q, 0, none⟩) hq a0).setCell (p := ⟨q, 1, none⟩) hq a1).setCell (p := ⟨q, 2, none⟩) hq a2).setCell (p := ⟨q, 3, none⟩) hq a3).setCell (p := ⟨q, 4, none⟩) hq a4).setCell (p := ⟨q, 5, none⟩) hq a5).setCell (p := ⟨q, 6, none⟩) hq a6).setCell (p := ⟨q, 7, none⟩) hq a7).setCell (p := ⟨q, 8, none⟩) hq a8).setCell (p := ⟨q, 9, none⟩) hq a9).setCell (p := ⟨q, 10, none⟩) hq a10).setCell (p := ⟨q, 11, none⟩) hq a11).setCell (p := ⟨q, 12, none⟩) hq a12
theorem Blk.put13 {W : World} {q : Nat} {t : TypeId} {b0 b1 b2 b3 b4 b5 b6 b7 b8 b9 b10 b11 b12 : Value} (h : Blk W q [b0, b1, b2, b3, b4, b5, b6, b7, b8, b9, b10, b11, b12] t) {a0 a1 a2 a3 a4 a5 a6 a7 a8 a9 a10 a11 a12 : Value} : Blk (put13 W q a0 a1 a2 a3 a4 a5 a6 a7 a8 a9 a10 a11 a12) q [a0, a1, a2, a3, a4, a5, a6, a7, a8, a9, a10, a11, a12] t := ((((((((((((h.store 0 a0).store 1 a1).store 2 a2).store 3 a3).store 4 a4).store 5 a5).store 6 a6).store 7 a7).store 8 a8).store 9 a9).store 10 a10).store 11 a11).store 12 a12
theorem blk_root4 {w : World} {q : Nat} {t : TypeId} {v0 v1 v2 v3 : Value} (h : Blk w q [v0, v1, v2, v3] t) : w.cell? ⟨q, 0, none⟩ = some v0 ∧ w.cell? ⟨q, 1, none⟩ = some v1 ∧ w.cell? ⟨q, 2, none⟩ = some v2 ∧ w.cell? ⟨q, 3, none⟩ = some v3 := ⟨h.cell 0, h.cell 1, h.cell 2, h.cell 3⟩
theorem repB_len (n rec xmt lo hi : Int) : (repB n rec xmt lo hi).length = 68 := by
  rw [repB, List.length_append, hdr_length, encE_len, show (ivF lo hi).f1.length = 16 from ivB_len lo hi]
structure RP1 (w W : World) (g5 g8 g9 : Nat) (n lo hi : Int) : Prop where
  hdr : Blk W g5 (reqL n) 46
  root : Blk W g8 rootL 50
  ivl : Blk W g9 (ivL lo hi) 33
  low : Below w.heap.size w W
theorem RP1.below {w W W' : World} {g5 g8 g9 : Nat} {n lo hi : Int} (h : RP1 w W g5 g8 g9 n lo hi) (hb : Below W.heap.size W W') : RP1 w W' g5 g8 g9 n lo hi :=
  ⟨h.hdr.below hb, h.root.below hb, h.ivl.below hb, below_step h.low hb⟩
structure RP2 (w W : World) (g9 q : Nat) (n rec xmt lo hi : Int) : Prop where
  ivl : Blk W g9 (ivL lo hi) 33
  rep : Blk W q (repL n rec xmt) 46
  low : Below w.heap.size w W
theorem RP2.below {w W W' : World} {g9 q : Nat} {n rec xmt lo hi : Int} (h : RP2 w W g9 q n rec xmt lo hi) (hb : Below W.heap.size W W') : RP2 w W' g9 q n rec xmt lo hi :=
  ⟨h.ivl.below hb, h.rep.below hb, below_step h.low hb⟩
structure RP3 (w W : World) (q r : Nat) (n rec xmt : Int) (D : List Int) (Ax : Option Addr) (cx : Nat) : Prop where
  rep : Blk W q (repL n rec xmt) 46
  fld : Blk W r [.int .i64 28929, .slice Ax 16 cx] 94
  xr : Kd.R (Kd.int .u8) 5 W w.heap.size (fun _ => True) (.slice Ax 16 cx) D
  low : Below w.heap.size w W
theorem RP3.below {w W W' : World} {q r cx : Nat} {n rec xmt : Int} {D : List Int} {Ax : Option Addr} (h : RP3 w W q r n rec xmt D Ax cx) (hb : Below W.heap.size W W') : RP3 w W' q r n rec xmt D Ax cx :=
  ⟨h.rep.below hb, h.fld.below hb, Kd.R_below h.xr hb, below_step h.low hb⟩
theorem reps_one {α : Type} {R : α → List Value → Prop} {size : Nat} {x : α} {c : List Value} (hl : c.length = size) (h : R x c) : Reps R size [x] c := by
  refine ⟨by simp [hl], fun j p hj => ?_⟩
  cases j with
  | zero =>
    have : x = p := by simpa using hj
    subst this
    rw [Nat.zero_mul, List.drop_zero, ← hl, List.take_length]
    exact h
  | succ j => cases j <;> cases hj
theorem app_one (HB : List Int) (x : SE) (N M : Nat) (hN : HB.length = N) (hM : (HB ++ encE x).length = M) (Be : Option Addr) (ce : Nat) (A1 : Option Addr) (k1 : Nat) (W : World) (hx : okE x) (hb : N ≤ 1000) (hC0 : Kd.C (Kd.int .u8) W Be N HB) (hc0 : N ≤ ce) (hC1 : Kd.C k94 W A1 1 [x]) (hk : 1 ≤ k1) :
    Calls Try.prog 36 #[.slice Be N ce, .slice A1 1 k1] W fun e w' => ∃ B cb, e = .returned (.tuple #[.slice B M cb, .int .i64 0]) ∧ M ≤ cb ∧ Kd.C (Kd.int .u8) w' B M (HB ++ encE x) ∧ Below W.heap.size W w' := by
  subst hN
  subst hM
  refine (ext_Append.calls 10 Be ce HB A1 k1 [x] _ _ W hC0 hc0 hC1 hk (append_one 6 HB x hx hb)).mono ?_
  rintro e w' ⟨v, rfl, ho, hbl⟩
  obtain ⟨B, cb, rfl, hcb, hB⟩ := Kd.R_reads ho
  exact ⟨B, cb, rfl, hcb, hB, hbl⟩
def RplPost (w : World) (n rec xmt lo hi : Int) (e : Ending) (w' : World) : Prop := ∃ A c, e = .returned (.tuple #[.slice A 68 c, .bool true]) ∧ 68 ≤ c ∧ Kd.C (Kd.int .u8) w' A 68 (repB n rec xmt lo hi) ∧ Below w.heap.size w w'
set_option maxHeartbeats 8000000 in
set_option maxRecDepth 100000 in
theorem reply_walk (w : World) (n rec xmt lo hi : Int) (hn : 0 ≤ n ∧ n < 2 ^ 64) (h1 : 0 ≤ rec ∧ rec < 2 ^ 64) (h2 : 0 ≤ xmt ∧ xmt < 2 ^ 64) (hv : Hid (chkV lo hi)) :
    Calls Try.prog 14 #[.agg #[.int .i64 0, .int .i64 4, .int .i64 3, .int .i64 0, .int .i64 0, .int .i64 0, .int .u32 0, .int .u32 0, .int .u32 0, .int .u64 0, .int .u64 0, .int .u64 0, .int .u64 n], .int .u64 rec, .int .u64 xmt, .agg #[.int .i64 1, .int .i64 0, .int .i64 1000, .int .u32 5], .agg #[.int .i64 lo, .int .i64 hi]] w (RplPost w n rec xmt lo hi) := by
  have HR := Lib.hid (rep_ok n rec xmt)
  have HF := Lib.hid (fld_ok lo hi hv.out)
  have HE := Lib.hid (rep_enc n rec xmt hn h1 h2)
  clear hn h1 h2 hv
  go_enter Try.func14, Try.ntmps14
  go_upto_region 1 with (first
    | ((with_reducible refine gate_dst (N := 5) rfl ?_); refine box_event ?hg (N := 5) ?hd (cs := (reqL n).toArray) (t := 46) ?hr ?_; (case hd => rfl); (case hg => rfl); (case hr => first | (go_simp; done) | (go_simp; rfl)); intro g5 hq w1 hbox hb1; have HB1 := Lib.hid hb1; have HK1 : Hid (Blk w1 g5 (reqL n) 46) := hbox; clear hq hbox hb1)
    | ((with_reducible refine gate_dst (N := 8) rfl ?_); refine box_event ?hg (N := 8) ?hd (cs := rootL.toArray) (t := 50) ?hr ?_; (case hd => rfl); (case hg => rfl); (case hr => first | (go_simp; done) | (go_simp; rfl)); intro g8 hq w2 hbox hb1; have HB2 := Lib.hid (below_step HB1.out hb1); have HK2 := Lib.hid (HK1.out.below hb1); have HL2 : Hid (Blk w2 g8 rootL 50) := hbox; clear HB1 HK1 hq hbox hb1)
    | ((with_reducible refine gate_dst (N := 9) rfl ?_); refine box_event ?hg (N := 9) ?hd (cs := (ivL lo hi).toArray) (t := 33) ?hr ?_; (case hd => rfl); (case hg => rfl); (case hr => first | (go_simp; done) | (go_simp; rfl)); intro g9 hq w3 hbox hb1; have HS : Hid (RP1 w w3 g5 g8 g9 n lo hi) := ⟨HK2.out.below hb1, HL2.out.below hb1, hbox, below_step HB2.out hb1⟩; clear HB2 HK2 HL2 hq hbox hb1))
  obtain ⟨c0, c1, c2, c3, c4, c5, c6, c7, c8, c9, c10, c11, c12, -⟩ := blk_cells13 HS.out.hdr
  obtain ⟨r0, r1, r2, r3⟩ := blk_root4 HS.out.root
  go_upto_region 2 with (first
    | (go_at_call 33; refine (server_Reply.calls 1 0 4 3 0 0 0 0 0 0 0 0 0 n rec xmt 0 1 0 1000 5 0 (-20) 0 4 4 1 0 (-20) 0 1 5 0 n rec xmt 0 _ HR.out).mono ?_; rintro e w5 ⟨rfl, hb⟩; have hs9 := HS.out.below hb; clear HS c0 c1 c2 c3 c4 c5 c6 c7 c8 c9 c10 c11 c12 r0 r1 r2 r3 hb; have HS := Lib.hid hs9; clear hs9)
    | ((with_reducible refine gate_dst (N := 12) rfl ?_); refine box_event ?hg (N := 12) ?hd (cs := ntp0.toArray) (t := 46) ?hr ?_; (case hd => rfl); (case hg => rfl); (case hr => first | (go_simp; done) | (go_simp; rfl)); intro q hq w6 hbox hb1; have HT := Lib.hid (HS.out.below hb1); have hbl : Blk w6 q ntp0 46 := hbox; obtain ⟨k0, k1, k2, k3, k4, k5, k6, k7, k8, k9, k10, k11, k12, f0, f1, f2, f3, f4, f5, f6, f7, f8, f9, f10, f11, f12⟩ := blk_cells13 hbl; have HW := Lib.hid hbl; have HL : Hid (w5.heap.size ≤ q) := (Nat.le_of_eq hq.symm); have HV := Lib.hid hb1; clear hbl hq hbox hb1))
  refine here4a (fun w' => Hid (RP2 w w' g9 q n rec xmt lo hi)) ?hst ?_
  case hst =>
    have hb2 := below_put13 HV.out HL.out (a0 := .int .i64 0) (a1 := .int .i64 4) (a2 := .int .i64 4) (a3 := .int .i64 1) (a4 := .int .i64 0) (a5 := .int .i64 (-20)) (a6 := .int .u32 0) (a7 := .int .u32 1) (a8 := .int .u32 5) (a9 := .int .u64 0) (a10 := .int .u64 n) (a11 := .int .u64 rec) (a12 := .int .u64 xmt)
    have hs := HS.out.below hb2
    exact ⟨hs.ivl, Blk.put13 HW.out, hs.low⟩
  clear HS HT k0 k1 k2 k3 k4 k5 k6 k7 k8 k9 k10 k11 k12 f0 f1 f2 f3 f4 f5 f6 f7 f8 f9 f10 f11 f12 HW HL HV
  intro w7 HS
  have z0 : w7.cell? ⟨g9, 0, none⟩ = some (.int .i64 lo) := HS.out.ivl.cell 0
  have z1 : w7.cell? ⟨g9, 1, none⟩ = some (.int .i64 hi) := HS.out.ivl.cell 1
  have HDL := Lib.hid (ivB_len lo hi)
  go_upto_region 3 with (first
    | (go_at_call 34; (with_reducible refine (server_Field.calls lo hi _ _ _ _ HF.out).mono ?_); rintro e w8 ⟨v, rfl, ho, hb⟩; obtain ⟨Ax, cx, rfl⟩ := Kd.R_slice ho; rw [HDL.out] at ho ⊢; have hs9 := HS.out.below hb; have HXR := Lib.hid (Kd.R_lower ho HS.out.low.size); clear HS z0 z1 ho hb; have HS := Lib.hid hs9; clear hs9)
    | ((with_reducible refine gate_dst (N := 14) rfl ?_); refine box_event ?hg (N := 14) ?hd (cs := #[.int .i64 0, .slice none 0 0]) (t := 94) ?hr ?_; (case hd => rfl); (case hg => rfl); (case hr => first | (go_simp; done) | (go_simp; rfl)); intro r hq w9 hbox hb1; have z2 := (blk_cell hbox 0).trans rfl; have z3 := (blk_cell hbox 1).trans rfl; have y2 := blk_frozen hbox 0; have y3 := blk_frozen hbox 1; have HW : Hid (Blk w9 r [.int .i64 0, .slice none 0 0] 94) := hbox; have HL : Hid (w8.heap.size ≤ r) := (Nat.le_of_eq hq.symm); have HV := Lib.hid hb1; clear hq hbox hb1))
  refine here4a (fun w' => Hid (RP3 w w' q r n rec xmt (ivB lo hi) Ax cx)) ?hst ?_
  case hst =>
    have hb2 := (HV.out.setCell (p := ⟨r, 0, none⟩) HL.out (.int .i64 28929)).setCell (p := ⟨r, 1, none⟩) HL.out (.slice Ax 16 cx)
    have hs := HS.out.below hb2
    exact ⟨hs.rep, (HW.out.store 0 _).store 1 _, Kd.R_below HXR.out hb2, hs.low⟩
  clear HS HW HL HV HXR z2 z3 y2 y3
  intro w10 HS
  obtain ⟨c0, c1, c2, c3, c4, c5, c6, c7, c8, c9, c10, c11, c12, -⟩ := blk_cells13 HS.out.rep
  obtain ⟨HB, hHB⟩ : ∃ HB, hdr 0 4 4 1 0 (-20) 0 1 5 0 n rec xmt = HB := ⟨_, rfl⟩
  have HHL : Hid (HB.length = 48) := by rw [← hHB]; exact hdr_length _ _ _ _ _ _ _ _ _ _ _ _ _
  have HHB := Lib.hid hHB
  have HML := Lib.hid (show (HB ++ encE (ivF lo hi)).length = 68 by rw [List.length_append, HHL.out, encE_len, show (ivF lo hi).f1.length = 16 from ivB_len lo hi])
  rw [hHB] at HE
  clear hHB
  go_upto_region 4 with (first
    | (go_at_call 35; (with_reducible refine (ntpmsg_Encode.calls 30 0 4 4 1 0 (-20) 0 1 5 0 n rec xmt _ _ _ HE.out).mono ?_); rintro e w11 ⟨v, rfl, ho, hb⟩; obtain ⟨Be, ce, rfl⟩ := Kd.R_slice ho; rw [HHL.out] at ho ⊢; have hs9 := HS.out.below hb; have HBR := Lib.hid (Kd.R_lower ho HS.out.low.size); clear HS c0 c1 c2 c3 c4 c5 c6 c7 c8 c9 c10 c11 c12 ho hb; have HS := Lib.hid hs9; clear hs9))
  have z2 : w11.cell? ⟨r, 0, none⟩ = some (.int .i64 28929) := HS.out.fld.cell 0
  have z3 : w11.cell? ⟨r, 1, none⟩ = some (.slice Ax 16 cx) := HS.out.fld.cell 1
  have HFK := Lib.hid (Kd.FK_of_M (k94_mkM w11 w.heap.size _ (ivF lo hi) (v1 := .slice Ax 16 cx) (Kd.R_tight rfl HS.out.xr)))
  go_wp2_with (first
    | ((with_reducible refine gate_dst (N := 40) rfl ?_); refine Kd.N_lit k94 (w0 := w11) w11.heap.size 94 ?hg (N' := 40) ?hd (xs := [ivF lo hi]) (inner := [.int .i64 28929, .slice Ax 16 cx]) (ok := fun _ => True) (okp := fun k => some k = (Value.slice Ax 16 cx).ownBlock) ?hr ?hp (fun _ hk => trivial) trivial (Below.refl _ _) (Nat.le_refl _) (by simp) ?_; (case hd => rfl); (case hg => rfl); (case hr => first | (go_simp; done) | (go_simp; rfl)); (case hp => exact reps_one rfl HFK.out); intro v1 w12 ho1 hb1 _ _; obtain ⟨A1, k1, rfl⟩ := Kd.N_slice ho1; have HO1 := Lib.hid (Kd.N_reads' ho1).2; have HS2 := Lib.hid (HS.out.below hb1); have hb2 := (Kd.R_reads' (Kd.R_below HBR.out hb1)).2; rw [HHL.out] at hb2; have HB2 := Lib.hid hb2; clear ho1 hb1 hb2)
    | (go_at_call 36; refine (app_one HB (ivF lo hi) 48 68 HHL.out HML.out Be ce A1 k1 w12 (ivF_ok lo hi) (by decide) HB2.out.2 HB2.out.1 HO1.out.2 HO1.out.1).mono ?_; rintro e w13 ⟨B, cb, rfl, hcb, hC, hb⟩; have HEND := Lib.hid (show _ ∧ _ ∧ _ from ⟨hcb, hC, below_step HS2.out.low hb⟩); clear hcb hC hb))
  go_ret2
  refine ⟨B, cb, rfl, HEND.out.1, ?_, HEND.out.2.2⟩
  rw [repB, HHB.out]
  exact HEND.out.2.1
end Go.Proofs.Ytjbjkjlfikfeeaa.P
/- A sample of an exchange: sample.Of at precision 1 and tolerance 0. -/
namespace Go.Proofs.Ytjbjkjlfikfeeaa.P
set_option linter.unusedVariables false
set_option linter.unusedSimpArgs false
open Go.RowKit Go.Proofs.YtjbjkjlfikfeeaaW.PrintWords Go.Proofs.YtjbjkjlfikfeeaaW.PrintLast Go.Proofs.YtjbjkjlfikfeeaaW.PrintMore Go.Proofs.Ytjbjkjlfikfeeaa.Rd
def smp0 : List Value := [.int .i64 0, .int .i64 0, .int .i64 0, .int .i64 0]
def quadL (t1 t2 t3 t4 : Int) : List Value := [.int .i64 t1, .int .i64 t2, .int .i64 t3, .int .i64 t4]
/-- What holds at each step of the region that draws: the quad's cells, the older blocks. -/
abbrev Keep4 (w0 w' : World) (g : Nat) (t1 t2 t3 t4 : Int) : Prop := w'.cell? ⟨g, 0, none⟩ = some (.int .i64 t1) ∧ w'.cell? ⟨g, 1, none⟩ = some (.int .i64 t2) ∧ w'.cell? ⟨g, 2, none⟩ = some (.int .i64 t3) ∧ w'.cell? ⟨g, 3, none⟩ = some (.int .i64 t4) ∧ Hid (Below w0.heap.size w0 w')
theorem keep_of {w0 w' : World} {g : Nat} {t1 t2 t3 t4 : Int} (h : Blk w0 g (quadL t1 t2 t3 t4) 40) (hb : Below w0.heap.size w0 w') : Keep4 w0 w' g t1 t2 t3 t4 :=
  ⟨(h.below hb).cell 0, (h.below hb).cell 1, (h.below hb).cell 2, (h.below hb).cell 3, hb⟩
theorem keep_start {w0 : World} {g : Nat} {t1 t2 t3 t4 : Int} (h : Blk w0 g (quadL t1 t2 t3 t4) 40) : Keep4 w0 w0.drew g t1 t2 t3 t4 := keep_of h (below_drew1 (Below.refl _ _))
theorem keep_drewN {w0 w' : World} {g : Nat} {t1 t2 t3 t4 : Int} (h : Keep4 w0 w' g t1 t2 t3 t4) (m : Nat) : Keep4 w0 (w'.drewN m) g t1 t2 t3 t4 :=
  ⟨h.1, h.2.1, h.2.2.1, h.2.2.2.1, pw_below_drewN h.2.2.2.2 m⟩
theorem below_cell {w0 w' w2 : World} {g j : Nat} {v : Value} (h : w'.cell? ⟨g, j, none⟩ = some v) (hb : Below w'.heap.size w' w2) : w2.cell? ⟨g, j, none⟩ = some v := (hb.cell (World.block_lt_of_cell? _ _ h)).trans h
theorem keep_alloc {w0 w' : World} {g : Nat} {t1 t2 t3 t4 : Int} (h : Keep4 w0 w' g t1 t2 t3 t4) (o : Obj) : Keep4 w0 (w'.alloc o) g t1 t2 t3 t4 := by
  have hb := below_alloc (Below.refl w'.heap.size w') o
  exact ⟨below_cell (w0 := w0) h.1 hb, below_cell (w0 := w0) h.2.1 hb, below_cell (w0 := w0) h.2.2.1 hb, below_cell (w0 := w0) h.2.2.2.1 hb, below_step h.2.2.2.2.out hb⟩
def SmpPost (w : World) (o dl dp t4 : Int) (e : Ending) (w' : World) : Prop := e = .returned (.tuple #[.agg #[.int .i64 o, .int .i64 dl, .int .i64 dp, .int .i64 t4], .int .i64 0]) ∧ Below w.heap.size w w'
/-- What is held: the quad's cells, the answer's cells. -/
structure SSt (w W : World) (g3 q : Nat) (c : List Value) : Prop where
  quad : Blk W g3 c 40
  ans : Blk W q smp0 67
  low : Below w.heap.size w W
  q0 : w.heap.size ≤ q
theorem SSt.below {w W W' : World} {g3 q : Nat} {c : List Value} (h : SSt w W g3 q c) (hb : Below W.heap.size W W') : SSt w W' g3 q c :=
  ⟨h.quad.below hb, h.ans.below hb, below_step h.low hb, h.q0⟩
theorem blk_cells4 {w : World} {q : Nat} {t : TypeId} {v0 v1 v2 v3 : Value} (h : Blk w q [v0, v1, v2, v3] t) : w.cell? ⟨q, 0, none⟩ = some v0 ∧ w.cell? ⟨q, 1, none⟩ = some v1 ∧ w.cell? ⟨q, 2, none⟩ = some v2 ∧ w.cell? ⟨q, 3, none⟩ = some v3 ∧ w.frozen? ⟨q, 0, none⟩ = false ∧ w.frozen? ⟨q, 1, none⟩ = false ∧ w.frozen? ⟨q, 2, none⟩ = false ∧ w.frozen? ⟨q, 3, none⟩ = false :=
  ⟨h.cell 0, h.cell 1, h.cell 2, h.cell 3, h.free 0, h.free 1, h.free 2, h.free 3⟩
theorem u112 : Try.prog.underlying 112 = some (.array 4 3) := by kernel_rfl
theorem index_q0 (w : World) (a b c d : Int) : (Instr.index 112 (.agg #[.int .i64 a, .int .i64 b, .int .i64 c, .int .i64 d]) (.int .i64 0)).run Try.prog w = .ok (.int .i64 a) w := by
  simp [Instr.index, run_underlying u112, asIntOf, go_sem]
theorem index_q1 (w : World) (a b c d : Int) : (Instr.index 112 (.agg #[.int .i64 a, .int .i64 b, .int .i64 c, .int .i64 d]) (.int .i64 1)).run Try.prog w = .ok (.int .i64 b) w := by
  simp [Instr.index, run_underlying u112, asIntOf, go_sem]
theorem index_q2 (w : World) (a b c d : Int) : (Instr.index 112 (.agg #[.int .i64 a, .int .i64 b, .int .i64 c, .int .i64 d]) (.int .i64 2)).run Try.prog w = .ok (.int .i64 c) w := by
  simp [Instr.index, run_underlying u112, asIntOf, go_sem]
theorem index_q3 (w : World) (a b c d : Int) : (Instr.index 112 (.agg #[.int .i64 a, .int .i64 b, .int .i64 c, .int .i64 d]) (.int .i64 3)).run Try.prog w = .ok (.int .i64 d) w := by
  simp [Instr.index, run_underlying u112, asIntOf, go_sem]
attribute [local go_sem high] index_q0 index_q1 index_q2 index_q3
def put4 (W : World) (q : Nat) (a b c d : Value) : World := (((W.setCell ⟨q, 0, none⟩ a).setCell ⟨q, 1, none⟩ b).setCell ⟨q, 2, none⟩ c).setCell ⟨q, 3, none⟩ d
theorem Blk.put4 {W : World} {q : Nat} {t : TypeId} {b0 b1 b2 b3 a b c d : Value} (h : Blk W q [b0, b1, b2, b3] t) : Blk (put4 W q a b c d) q [a, b, c, d] t := (((h.store 0 a).store 1 b).store 2 c).store 3 d
theorem below_put4 {N : Nat} {w W : World} {q : Nat} (h : Below N w W) (hq : N ≤ q) {a b c d : Value} : Below N w (put4 W q a b c d) := (((h.setCell (p := ⟨q, 0, none⟩) hq a).setCell (p := ⟨q, 1, none⟩) hq b).setCell (p := ⟨q, 2, none⟩) hq c).setCell (p := ⟨q, 3, none⟩) hq d
theorem smp_end1 {w w5 : World} {g3 q m : Nat} {c : List Value} {a1 a2 a3 a4 : Value} (h : SSt w w5 g3 q c) :
    Hid (SSt w (((((((w5.alloc (.cells #[.int .i64 0, .int .i64 0, .int .i64 0, .int .i64 0] 67)).drewN m).setCell ⟨w5.heap.size, 0, none⟩ a1).setCell ⟨w5.heap.size, 1, none⟩ a2).setCell ⟨w5.heap.size, 2, none⟩ a3).setCell ⟨w5.heap.size, 3, none⟩ a4)) g3 q c) ∧ Hid (Blk (((((((w5.alloc (.cells #[.int .i64 0, .int .i64 0, .int .i64 0, .int .i64 0] 67)).drewN m).setCell ⟨w5.heap.size, 0, none⟩ a1).setCell ⟨w5.heap.size, 1, none⟩ a2).setCell ⟨w5.heap.size, 2, none⟩ a3).setCell ⟨w5.heap.size, 3, none⟩ a4)) w5.heap.size [a1, a2, a3, a4] 67) := by
  have hb := below_alloc (Below.refl w5.heap.size w5) (.cells #[.int .i64 0, .int .i64 0, .int .i64 0, .int .i64 0] 67)
  have hk : Blk (w5.alloc (.cells #[.int .i64 0, .int .i64 0, .int .i64 0, .int .i64 0] 67)) w5.heap.size smp0 67 := blk_new _ _
  exact ⟨h.below (below_put4 (pw_below_drewN hb m) (Nat.le_refl _)), Blk.put4 (hk.below (pw_below_drewN (Below.refl _ _) m))⟩
theorem smp_end2 {w w5 : World} {g3 q m : Nat} {c : List Value} {a1 a2 a3 a4 : Value} (h : SSt w w5 g3 q c) :
    Hid (SSt w (((((((w5.drewN m).alloc (.cells #[.int .i64 0, .int .i64 0, .int .i64 0, .int .i64 0] 67)).setCell ⟨w5.heap.size, 0, none⟩ a1).setCell ⟨w5.heap.size, 1, none⟩ a2).setCell ⟨w5.heap.size, 2, none⟩ a3).setCell ⟨w5.heap.size, 3, none⟩ a4)) g3 q c) ∧ Hid (Blk (((((((w5.drewN m).alloc (.cells #[.int .i64 0, .int .i64 0, .int .i64 0, .int .i64 0] 67)).setCell ⟨w5.heap.size, 0, none⟩ a1).setCell ⟨w5.heap.size, 1, none⟩ a2).setCell ⟨w5.heap.size, 2, none⟩ a3).setCell ⟨w5.heap.size, 3, none⟩ a4)) w5.heap.size [a1, a2, a3, a4] 67) := by
  have hb := below_alloc (pw_below_drewN (Below.refl w5.heap.size w5) m) (.cells #[.int .i64 0, .int .i64 0, .int .i64 0, .int .i64 0] 67)
  have hk : Blk ((w5.drewN m).alloc (.cells #[.int .i64 0, .int .i64 0, .int .i64 0, .int .i64 0] 67)) w5.heap.size smp0 67 := blk_new (w5.drewN m) _
  exact ⟨h.below (below_put4 hb (Nat.le_refl _)), Blk.put4 hk⟩
theorem new_cellN (W : World) (m j : Nat) (cs : Array Value) (t : TypeId) : ((W.drewN m).alloc (.cells cs t (0, 0))).cell? ⟨W.heap.size, j, none⟩ = cs[j]? := blk_cell (blk_new (W.drewN m) _) j
theorem new_frozenN (W : World) (m j : Nat) (cs : Array Value) (t : TypeId) : ((W.drewN m).alloc (.cells cs t (0, 0))).frozen? ⟨W.heap.size, j, none⟩ = false := blk_frozen (blk_new (W.drewN m) _) j
theorem new_cellD (W : World) (j : Nat) (cs : Array Value) (t : TypeId) : (W.drew.alloc (.cells cs t (0, 0))).cell? ⟨W.heap.size, j, none⟩ = cs[j]? := blk_cell (blk_new W.drew _) j
theorem new_frozenD (W : World) (j : Nat) (cs : Array Value) (t : TypeId) : (W.drew.alloc (.cells cs t (0, 0))).frozen? ⟨W.heap.size, j, none⟩ = false := blk_frozen (blk_new W.drew _) j
attribute [local go_sem] new_cellN new_frozenN new_cellD new_frozenD
attribute [local go_sem] max2_int min2_int max_two min_two
set_option maxHeartbeats 8000000 in
set_option maxRecDepth 100000 in
theorem sample_of (w : World) (t1 t2 t3 t4 o dl a1 a2 a3 e41 s dd : Int) (hw41 : IntKind.i64.wrap (t4 - t1) = e41) (hw21 : IntKind.i64.wrap (t2 - t1) = a1) (hw34 : IntKind.i64.wrap (t3 - t4) = a2) (hws : IntKind.i64.wrap (a1 + a2) = s) (hw32 : IntKind.i64.wrap (t3 - t2) = a3) (hwd : IntKind.i64.wrap (e41 - a3) = dd) (hw1 : IntKind.i64.wrap 1 = 1) (hho : s / 2 = o) (hdl : (if 1 < dd then dd else 1) = dl) (i1 : Hid (sample_inside.f t1 = some true)) (i2 : Hid (sample_inside.f t2 = some true)) (i3 : Hid (sample_inside.f t3 = some true)) (i4 : Hid (sample_inside.f t4 = some true)) (htol : Hid (sample_tolerance.f 0 = some true))
    (hgr : Hid (sample_growth.f e41 0 = some 0)) (h41 : decide (t4 < t1) = false) (h32 : decide (t3 < t2) = false) (hv : Hid (sample_valid.f o dl 1 t4 = some (o, dl, 1, t4, 0))) :
    Calls Try.prog 20 #[.agg #[.int .i64 t1, .int .i64 t2, .int .i64 t3, .int .i64 t4], .int .i64 1, .int .i64 0] w (SmpPost w o dl 1 t4) := by
  go_enter Try.func20, Try.ntmps20
  go_upto_region 1 with (first
    | ((with_reducible refine gate_dst (N := 3) rfl ?_); refine box_event ?hg (N := 3) ?hd (cs := #[.int .i64 t1, .int .i64 t2, .int .i64 t3, .int .i64 t4]) (t := 40) ?hr ?_; (case hd => rfl); (case hg => rfl); (case hr => first | (go_simp; done) | (go_simp; rfl)); intro g3 hq w1 hbox hb1; have HB := Lib.hid hb1; have HK : Hid (Blk w1 g3 (quadL t1 t2 t3 t4) 40) := hbox; clear hq hbox hb1)
    | ((with_reducible refine gate_dst (N := 6) rfl ?_); refine box_event ?hg (N := 6) ?hd (cs := smp0.toArray) (t := 67) ?hr ?_; (case hd => rfl); (case hg => rfl); (case hr => first | (go_simp; done) | (go_simp; rfl)); intro q hq w2 hbox hb1; have HB2 := Lib.hid (below_step HB.out hb1); have HK2 := Lib.hid (HK.out.below hb1); have HQ : Hid (w.heap.size ≤ q) := (by rw [hq]; exact HB.out.size); have HR : Hid (Blk w2 q smp0 67) := hbox; clear HB HK hq hbox hb1))
  have HS : Hid (SSt w w2 g3 q (quadL t1 t2 t3 t4)) := ⟨HK2.out, HR.out, HB2.out, HQ.out⟩
  clear HK2 HR HB2 HQ
  obtain ⟨c0, c1, c2, c3, -⟩ := blk_cells4 HS.out.quad
  go_wp2_with (fail)
  refine wp_loop_rounds 5 ?_
  rw [rounds_succ]
  go_wp2_with (first | (go_at_call_of 47 t1; refine (sample_inside.calls t1 true _ i1.out).mono ?_; rintro e w5 ⟨rfl, hd⟩; have hs9 := HS.out.below hd.below; clear HS c0 c1 c2 c3 hd; obtain ⟨c0, c1, c2, c3, -⟩ := blk_cells4 hs9.quad; have HS := Lib.hid hs9; clear hs9))
  rw [rounds_succ]
  go_wp2_with (first | (go_at_call_of 47 t2; refine (sample_inside.calls t2 true _ i2.out).mono ?_; rintro e w5 ⟨rfl, hd⟩; have hs9 := HS.out.below hd.below; clear HS c0 c1 c2 c3 hd; obtain ⟨c0, c1, c2, c3, -⟩ := blk_cells4 hs9.quad; have HS := Lib.hid hs9; clear hs9))
  rw [rounds_succ]
  go_wp2_with (first | (go_at_call_of 47 t3; refine (sample_inside.calls t3 true _ i3.out).mono ?_; rintro e w5 ⟨rfl, hd⟩; have hs9 := HS.out.below hd.below; clear HS c0 c1 c2 c3 hd; obtain ⟨c0, c1, c2, c3, -⟩ := blk_cells4 hs9.quad; have HS := Lib.hid hs9; clear hs9))
  rw [rounds_succ]
  go_wp2_with (first | (go_at_call_of 47 t4; refine (sample_inside.calls t4 true _ i4.out).mono ?_; rintro e w5 ⟨rfl, hd⟩; have hs9 := HS.out.below hd.below; clear HS c0 c1 c2 c3 hd; obtain ⟨c0, c1, c2, c3, -⟩ := blk_cells4 hs9.quad; have HS := Lib.hid hs9; clear hs9))
  rw [rounds_succ]
  go_upto_region 11 with (go_at_call 48; refine (sample_tolerance.calls 0 true _ htol.out).mono ?_; rintro e w5 ⟨rfl, hd⟩; have hs9 := HS.out.below hd.below; clear HS c0 c1 c2 c3 hd; obtain ⟨c0, c1, c2, c3, -⟩ := blk_cells4 hs9.quad; have HS := Lib.hid hs9; clear hs9)
  go_cut [10] (fun v10 wc => ∃ q10, v10 = .pointer (some ⟨q10, 0, none⟩) ∧ Hid (SSt w wc g3 q (quadL t1 t2 t3 t4)) ∧ Hid (Blk wc q10 [.int .i64 o, .int .i64 dl, .int .i64 1, .int .i64 t4] 67))
  case first =>
    go_region_held3 (fun w' : World => w'.cell? ⟨g3, 0, none⟩ = some (.int .i64 t1) ∧ w'.cell? ⟨g3, 1, none⟩ = some (.int .i64 t2) ∧ w'.cell? ⟨g3, 2, none⟩ = some (.int .i64 t3) ∧ w'.cell? ⟨g3, 3, none⟩ = some (.int .i64 t4) ∧ Hid (Below w5.heap.size w5 w')) ((refine keep_of HS.out.quad ?_; repeat (first | exact Below.refl _ _ | (with_reducible first | apply below_alloc | apply pw_below_drewN | apply below_drew1) | (refine Below.setCell ?_ (by simp) _)))) (first
      | (go_at_call 49; refine (sample_growth.calls e41 0 0 _ hgr.out).mono ?_; rintro e w6 ⟨rfl, nd, rfl⟩; (first | dsimp only)))
    all_goals
      go_wp2
      go_meet
      case rel =>
        refine ⟨w5.heap.size, rfl, ?_⟩
        first
          | with_reducible exact smp_end1 HS.out
          | with_reducible exact smp_end2 HS.out
  case rest =>
    clear HS c0 c1 c2 c3
    obtain ⟨q10, rfl, HS, HN⟩ := hcut
    obtain ⟨n0, n1, n2, n3, -⟩ := blk_cells4 HN.out
    obtain ⟨k0, k1, k2, k3, f0, f1, f2, f3⟩ := blk_cells4 HS.out.ans
    go_wp2_with (go_at_call 50; refine (sample_valid.calls o dl 1 t4 o dl 1 t4 0 _ hv.out).mono ?_; rintro e w7 ⟨rfl, hb⟩; have hs9 := HS.out.below hb; clear HS HN n0 n1 n2 n3 k0 k1 k2 k3 f0 f1 f2 f3 hb; obtain ⟨k0, k1, k2, k3, f0, f1, f2, f3⟩ := blk_cells4 hs9.ans; have HS := Lib.hid hs9; clear hs9)
    (try simp only [Exit.inBlock, Exit.then])
    refine bodyPost_ret (results_blk2 rfl _ _ q 67 _ [.int .i64 o, .int .i64 dl, .int .i64 1, .int .i64 t4] _ ((((HS.out.ans.store 0 _).store 1 _).store 2 _).store 3 _) rfl rfl Try.underlying67 rfl (by kernel_rfl)) rfl ?_
    exact ⟨rfl, (((HS.out.low.setCell (p := ⟨q, 0, none⟩) HS.out.q0 _).setCell (p := ⟨q, 1, none⟩) HS.out.q0 _).setCell (p := ⟨q, 2, none⟩) HS.out.q0 _).setCell (p := ⟨q, 3, none⟩) HS.out.q0 _⟩
end Go.Proofs.Ytjbjkjlfikfeeaa.P
namespace Go.Proofs.Ytjbjkjlfikfeeaa.P
open Go.RowKit Go.Proofs.YtjbjkjlfikfeeaaW.PrintWords Go.Proofs.YtjbjkjlfikfeeaaW.PrintLast Go.Proofs.YtjbjkjlfikfeeaaW.PrintMore
attribute [local go_sem] max2_int min2_int max_two min_two max_three min_three max_four min_four Go.Proofs.Ytjbjkjlfikfeeaa.Op.isSome_setCell   -- for this text's walks alone
set_option linter.unusedVariables false
set_option linter.unusedSimpArgs false

/-! ### wire_right: function 65 -/
def wire_right.f (a0 : Int) : Option (Bool) := if a0 ≥ 1 then (some (decide (a0 ≤ 8))) else (some false)
set_option maxHeartbeats 8000000 in
set_option maxRecDepth 100000 in
theorem wire_right.calls (a0 : Int) (r : Bool) (w : World) (h : wire_right.f a0 = some r) :
    Calls Try.prog 65 #[.int .i64 a0] w fun e w' => e = .returned (.bool r) ∧ Drawn0 w w' := by
  have H : (if a0 ≥ 1 then (some (decide (a0 ≤ 8))) else (some false)) = some r := h
  clear h
  by_cases c2 : a0 ≥ 1
  · rw [if_pos c2] at H
    have c2b0 : decide (1 ≤ a0) = true := decide_eq_true c2
    clear c2
    obtain rfl := Option.some.inj H
    go_enter Try.func65, Try.ntmps65
    go_wp2
    go_ret
    exact ⟨by first | rfl | (simp; done) | (simp [*]; done), by repeat (first | exact Drawn0.refl _ | apply Drawn0.step)⟩
  · rw [if_neg c2] at H
    have c2b0 : decide (1 ≤ a0) = false := decide_eq_false c2
    clear c2
    obtain rfl := Option.some.inj H
    go_enter Try.func65, Try.ntmps65
    go_wp2
    go_ret
    exact ⟨by first | rfl | (simp; done) | (simp [*]; done), by repeat (first | exact Drawn0.refl _ | apply Drawn0.step)⟩

end Go.Proofs.Ytjbjkjlfikfeeaa.P
namespace Go.Proofs.Ytjbjkjlfikfeeaa.P
open Go.RowKit Go.Proofs.YtjbjkjlfikfeeaaW.PrintWords Go.Proofs.YtjbjkjlfikfeeaaW.PrintLast Go.Proofs.YtjbjkjlfikfeeaaW.PrintMore
attribute [local go_sem] max2_int min2_int max_two min_two max_three min_three max_four min_four Go.Proofs.Ytjbjkjlfikfeeaa.Op.isSome_setCell   -- for this text's walks alone
set_option linter.unusedVariables false
set_option linter.unusedSimpArgs false

/-! ### wire_Get: function 44 -/
mutual
def wire_Get.j0 : Nat → List Int → Int → Int → Bool → Option (Int × Int)
  | 0, _, _, _, _ => none
  | k + 1, x0, x1, x2, x22 => if x22 = true then (some (0, 5)) else (wire_Get.l0 k x0 x1 0 x2 0)
def wire_Get.l0 : Nat → List Int → Int → Int → Int → Int → Option (Int × Int)
  | 0, _, _, _, _, _ => none
  | k + 1, x0, x1, x8, x23, x24 => if x24 < x23 then (if 0 ≤ (wrap64 (x1 + x24)) then (if (wrap64 (x1 + x24)) < (x0.length : Int) then (wire_Get.l0 k x0 x1 (Go.bits .or .u64 (IntKind.u64.wrap (x8 * 256)) (IntKind.u64.wrap (rd x0 (wrap64 (x1 + x24))))) x23 (wrap64 (x24 + 1))) else (none)) else (none)) else (some (x8, 0))
end
def wire_Get.f (k : Nat) (l0 : List Int) (a1 : Int) (a2 : Int) : Option (Int × Int) := (wire_right.f a2).bind fun t119 => (if t119 = true then (if a1 < 0 then (wire_Get.j0 k l0 a1 a2 true) else (wire_Get.j0 k l0 a1 a2 (decide (a1 > (wrap64 ((l0.length : Int) - a2)))))) else (some (0, 2)))
theorem wire_Get.mono_l : ∀ k, (∀ y0 y1 y2 y3, LeO (wire_Get.j0 k y0 y1 y2 y3) (wire_Get.j0 (k + 1) y0 y1 y2 y3)) ∧ (∀ y0 y1 y2 y3 y4, LeO (wire_Get.l0 k y0 y1 y2 y3 y4) (wire_Get.l0 (k + 1) y0 y1 y2 y3 y4))
  | 0 => ⟨fun _ _ _ _ r h => by simp [wire_Get.j0] at h, fun _ _ _ _ _ r h => by simp [wire_Get.l0] at h⟩
  | k + 1 => by
    obtain ⟨ih0, ih1⟩ := wire_Get.mono_l k
    refine ⟨?_, ?_⟩
    · intro y0 y1 y2 y3
      unfold wire_Get.j0
      repeat' first
      | (with_reducible exact ih0 _ _ _ _)
      | (with_reducible exact ih1 _ _ _ _ _)
      | (with_reducible exact LeO.refl _)
      | (with_reducible exact LeO.none _)
      | (with_reducible refine LeO.ite ?_ ?_)
      | (with_reducible refine LeO.bind ?_ (fun _ => ?_))
      | exact ih0 _ _ _ _
      | exact ih1 _ _ _ _ _
      | exact LeO.none _
      | refine LeO.ite ?_ ?_
      | refine LeO.bind ?_ (fun _ => ?_)
    · intro y0 y1 y2 y3 y4
      unfold wire_Get.l0
      repeat' first
      | (with_reducible exact ih0 _ _ _ _)
      | (with_reducible exact ih1 _ _ _ _ _)
      | (with_reducible exact LeO.refl _)
      | (with_reducible exact LeO.none _)
      | (with_reducible refine LeO.ite ?_ ?_)
      | (with_reducible refine LeO.bind ?_ (fun _ => ?_))
      | exact ih0 _ _ _ _
      | exact ih1 _ _ _ _ _
      | exact LeO.none _
      | refine LeO.ite ?_ ?_
      | refine LeO.bind ?_ (fun _ => ?_)
theorem wire_Get.mono : ∀ a0 a1 a2 k, LeO (wire_Get.f k a0 a1 a2) (wire_Get.f (k + 1) a0 a1 a2) := by
  intro a0 a1 a2 k
  obtain ⟨ih0, ih1⟩ := wire_Get.mono_l k
  unfold wire_Get.f
  repeat' first
      | (with_reducible exact ih0 _ _ _ _)
      | (with_reducible exact ih1 _ _ _ _ _)
      | (with_reducible exact LeO.refl _)
      | (with_reducible exact LeO.none _)
      | (with_reducible refine LeO.ite ?_ ?_)
      | (with_reducible refine LeO.bind ?_ (fun _ => ?_))
      | exact ih0 _ _ _ _
      | exact ih1 _ _ _ _ _
      | exact LeO.none _
      | refine LeO.ite ?_ ?_
      | refine LeO.bind ?_ (fun _ => ?_)
set_option maxHeartbeats 8000000 in
set_option maxRecDepth 100000 in
theorem wire_Get.calls (k : Nat) (A0 : Option Addr) (c0 : Nat) (l0 : List Int) (a1 : Int) (a2 : Int) (r1 : Int) (r2 : Int) (w : World) (hr0 : Kd.C (Kd.int .u8) w A0 l0.length l0) (hc0 : l0.length ≤ c0) (h : wire_Get.f k l0 a1 a2 = some (r1, r2)) :
    Calls Try.prog 44 #[.slice A0 l0.length c0, .int .i64 a1, .int .i64 a2] w fun e w' => e = .returned (.tuple #[.int .u64 r1, .int .i64 r2]) ∧ Drawn0 w w' := by
  have HR0 := Aside0.mk hr0
  have HC0 := Aside0.mk hc0
  clear hr0 hc0
  have H : ((wire_right.f a2).bind fun t119 => (if t119 = true then (if a1 < 0 then (wire_Get.j0 k l0 a1 a2 true) else (wire_Get.j0 k l0 a1 a2 (decide (a1 > (wrap64 ((l0.length : Int) - a2)))))) else (some (0, 2)))) = some (r1, r2) := h
  clear h
  replace H := Option.bind_eq_some_iff.mp H
  obtain ⟨t119, A40, H⟩ := H
  replace H : (if t119 = true then (if a1 < 0 then (wire_Get.j0 k l0 a1 a2 true) else (wire_Get.j0 k l0 a1 a2 (decide (a1 > (wrap64 ((l0.length : Int) - a2)))))) else (some (0, 2))) = some (r1, r2) := H
  have A4 := Aside0.mk A40
  clear A40
  by_cases c5 : t119 = true
  · subst c5
    have H1 : (if a1 < 0 then (wire_Get.j0 k l0 a1 a2 true) else (wire_Get.j0 k l0 a1 a2 (decide (a1 > (wrap64 ((l0.length : Int) - a2)))))) = some (r1, r2) := by rw [if_pos rfl] at H; exact H
    clear H
    have H := H1
    clear H1
    have HC6 := Aside0.mk H
    clear H
    go_enter Try.func44, Try.ntmps44
    go_upto_region 3 with (first | ((with_reducible refine gate_callee (f := 65) rfl ?_); refine goesL_ (some 11) rfl rfl Try.func65 (by kernel_rfl) rfl #[.int .i64 a2] rfl (by (try simp only [List.map_toArray, List.map_cons, List.map_nil]); first | done | rfl | (simp only [List.length_drop, List.length_take]; rfl)) ?_; (with_reducible refine (wire_right.calls a2 true _ A4.out).mono ?_); rintro e w' ⟨rfl, ⟨nd, rfl⟩⟩; refine ⟨_, rfl, ?_⟩))
    (try simp only [Act.put, List.setIfInBounds_toArray, List.set_cons_zero, List.set_cons_succ])
    go_cut [22] (fun v22 wc => ∃ (kq : Nat) (x22_5 : Bool), v22 = .bool x22_5 ∧ Aside0 (wire_Get.j0 kq l0 a1 a2 x22_5 = some (r1, r2)) ∧ Aside0 (kq ≤ k) ∧ Drawn0 w wc)
    case first =>
      have H := HC6.out
      clear HC6
      by_cases c7 : a1 < 0
      · rw [if_pos c7] at H
        have c7b0 : decide (a1 < 0) = true := decide_eq_true c7
        clear c7
        (first | rw [c7b0] | (simp only [i64_w, i32_w]; rw [c7b0]) | skip)
        have H' := Aside0.mk H
        clear H
        go_wp2
        go_meet
        case rel => exact ⟨_, (true), (by first | rfl | (simp; done) | (simp [*]; done)), H', ⟨by first | omega | exact Nat.le_refl _⟩, by repeat (first | exact Drawn0.refl _ | apply Drawn0.step)⟩
      · rw [if_neg c7] at H
        have c7b0 : decide (a1 < 0) = false := decide_eq_false c7
        clear c7
        (first | rw [c7b0] | (simp only [i64_w, i32_w]; rw [c7b0]) | skip)
        have H' := Aside0.mk H
        clear H
        go_wp2
        go_meet
        case rel => exact ⟨_, (decide (a1 > (wrap64 ((l0.length : Int) - a2)))), (by first | rfl | (simp; done) | (simp [*]; done)), H', ⟨by first | omega | exact Nat.le_refl _⟩, by repeat (first | exact Drawn0.refl _ | apply Drawn0.step)⟩
    case rest =>
      clear HC6
      try clear p2
      try clear c4
      try clear c5
      try clear c6
      try clear p6
      try clear c7
      try clear c7b0
      obtain ⟨kq, x22_5, rfl, HA, HJ5, ⟨mc5, rfl⟩⟩ := hcut
      cases kq with
      | zero => exact absurd HA.out (by simp [wire_Get.j0])
      | succ kj5 =>
        have H := HA.out
        clear HA
        simp only [wire_Get.j0] at H
        by_cases c8 : x22_5 = true
        · subst c8
          have H1 : (some (0, 5)) = some (r1, r2) := by rw [if_pos rfl] at H; exact H
          clear H
          have H := H1
          clear H1
          simp only [Option.some.injEq, Prod.mk.injEq] at H
          obtain ⟨rfl, rfl⟩ := H
          go_wp2
          go_ret2
          exact ⟨by first | rfl | (simp; done) | (simp [*]; done), by repeat (first | exact Drawn0.refl _ | apply Drawn0.step)⟩
        · replace c8 := Bool.eq_false_iff.mpr c8
          subst c8
          have H1 : (wire_Get.l0 kj5 l0 a1 0 a2 0) = some (r1, r2) := by rw [if_neg (show ¬ (false = true) by decide)] at H; exact H
          clear H
          have H := H1
          clear H1
          have H' := Aside0.mk H
          clear H
          go_wp2
          go_loopg [8, 24] kj5 (fun kq v8 v24 w' => ∃ (x8_2 : Int) (x24_2 : Int), v8 = .int .u64 x8_2 ∧ v24 = .int .i64 x24_2 ∧ Aside0 (wire_Get.l0 kq l0 a1 x8_2 a2 x24_2 = some (r1, r2)) ∧ Aside0 (kq ≤ kj5) ∧ Drawn0 w w')
          case atStart => exact ⟨(0), (0), (by first | rfl | (simp; done) | (simp [*]; done)), (by first | rfl | (simp; done) | (simp [*]; done)), H', ⟨Nat.le_refl _⟩, by repeat (first | exact Drawn0.refl _ | apply Drawn0.step)⟩
          case round =>
            clear H'
            try clear p2
            try clear c4
            try clear c5
            try clear c6
            try clear p6
            try clear c7
            try clear c7b0
            try clear c8
            try clear p2
            try clear p6
            obtain ⟨x8_2, x24_2, rfl, rfl, HA, HK2, ⟨m2, rfl⟩⟩ := hrel
            cases gk with
            | zero => exact absurd HA.out (by simp [wire_Get.l0])
            | succ k2 =>
              have H := HA.out
              clear HA
              simp only [wire_Get.l0] at H
              by_cases c9 : x24_2 < a2
              · rw [if_pos c9] at H
                have c9b0 : decide (x24_2 < a2) = true := decide_eq_true c9
                clear c9
                obtain ⟨ji10, hji10⟩ : ∃ j_ : Int, (wrap64 (a1 + x24_2)) = j_ := ⟨_, rfl⟩
                replace H : (if 0 ≤ (ji10) then (if (ji10) < (l0.length : Int) then (wire_Get.l0 k2 l0 a1 (Go.bits .or .u64 (IntKind.u64.wrap (x8_2 * 256)) (IntKind.u64.wrap (rd l0 (ji10)))) a2 (wrap64 (x24_2 + 1))) else (none)) else (none)) = some (r1, r2) := by first | (rw [hji10] at H; exact H) | (simp only [hji10] at H ⊢; exact H)
                have hji10w : (IntKind.i64.wrap (a1 + x24_2)) = ji10 := (i64_w _).trans hji10
                by_cases c11 : 0 ≤ (ji10)
                · rw [if_pos c11] at H
                  have c11b0 : decide (0 ≤ (ji10)) = true := decide_eq_true c11
                  clear c11
                  by_cases c12 : (ji10) < (l0.length : Int)
                  · rw [if_pos c12] at H
                    have c12b0 : decide ((ji10) < (l0.length : Int)) = true := decide_eq_true c12
                    clear c12
                    have H' := Aside0.mk H
                    clear H
                    have p120 : 0 ≤ ((ji10) : Int) := of_decide_eq_true (by first | (with_reducible assumption) | assumption)
                    have q120 : (ji10) < (l0.length : Int) := of_decide_eq_true (by first | (with_reducible assumption) | assumption)
                    obtain ⟨ad120, e120, hx120_0⟩ := Kd.at_int HR0.out (ji10) p120 q120
                    cases e120
                    replace p120 := eq_true p120
                    replace q120 := eq_true q120
                    go_wp2
                    go_roundg k2
                    case measure => have := HJ5.out; have := HK2.out; omega
                    case rel => exact ⟨(Go.bits .or .u64 (IntKind.u64.wrap (x8_2 * 256)) (IntKind.u64.wrap (rd l0 (ji10)))), (wrap64 (x24_2 + 1)), (by first | rfl | (simp; done) | (simp only [← hji10] <;> (first | rfl | simp)) | (simp [*]; done)), (by first | rfl | (simp; done) | (simp [*]; done)), H', ⟨by have := HJ5.out; have := HK2.out; omega⟩, by repeat (first | exact Drawn0.refl _ | apply Drawn0.step)⟩
                  · rw [if_neg c12] at H
                    exact absurd H (by simp)
                · rw [if_neg c11] at H
                  exact absurd H (by simp)
              · rw [if_neg c9] at H
                have c9b0 : decide (x24_2 < a2) = false := decide_eq_false c9
                clear c9
                simp only [Option.some.injEq, Prod.mk.injEq] at H
                obtain ⟨rfl, rfl⟩ := H
                go_wp2
                go_ret2
                exact ⟨by first | rfl | (simp; done) | (simp [*]; done), by repeat (first | exact Drawn0.refl _ | apply Drawn0.step)⟩
  · replace c5 := Bool.eq_false_iff.mpr c5
    subst c5
    have H1 : (some (0, 2)) = some (r1, r2) := by rw [if_neg (show ¬ (false = true) by decide)] at H; exact H
    clear H
    have H := H1
    clear H1
    simp only [Option.some.injEq, Prod.mk.injEq] at H
    obtain ⟨rfl, rfl⟩ := H
    go_enter Try.func44, Try.ntmps44
    go_wp2_with (first | ((with_reducible refine gate_callee (f := 65) rfl ?_); refine goesL_ (some 11) rfl rfl Try.func65 (by kernel_rfl) rfl #[.int .i64 a2] rfl (by (try simp only [List.map_toArray, List.map_cons, List.map_nil]); first | done | rfl | (simp only [List.length_drop, List.length_take]; rfl)) ?_; (with_reducible refine (wire_right.calls a2 false _ A4.out).mono ?_); rintro e w' ⟨rfl, ⟨nd, rfl⟩⟩; refine ⟨_, rfl, ?_⟩))
    go_ret2
    exact ⟨by first | rfl | (simp; done) | (simp [*]; done), by repeat (first | exact Drawn0.refl _ | apply Drawn0.step)⟩

end Go.Proofs.Ytjbjkjlfikfeeaa.P
