/- A reader in whatever state, in what has turned above w0 alone; literals of bytes. -/
import Derived.Test.YthneihebdlppeaaXRd3
namespace Go.Proofs.Ythneihebdlppeaa.Rd
set_option linter.unusedVariables false
open Go.RowKit Go.Proofs.YthneihebdlppeaaW.PrintWords Go.Proofs.YthneihebdlppeaaW.PrintLast Go.Proofs.YthneihebdlppeaaW.PrintMore

structure RdA (w0 w : World) (g b : Nat) (all rest : List Int) (er : Int) : Prop where
  at' : ∃ p, At w g b all rest er p
  g0 : w0.heap.size ≤ g
  b0 : w0.heap.size ≤ b
  low : Below w0.heap.size w0 w
  ok : bytesOk all
section
variable {w0 w : World} {g b : Nat} {all rest : List Int} {er : Int}
theorem RdA.went (h : RdA w0 w g b all rest er) {s : List Int × Int} {w' : World} (hw : Went w g b all s w') : RdA w0 w' g b all s.1 s.2 :=
  ⟨hw.1, h.g0, h.b0, hw.2.below h.low h.g0 h.low.size, h.ok⟩
theorem RdA.uint (h : RdA w0 w g b all rest er) (n : Int) :
    Calls Try.prog 47 #[.pointer (some ⟨g, 0, none⟩), .int .i64 n] w fun e w' => e = .returned (.int .u64 (uintS rest er n).1) ∧ RdA w0 w' g b all (uintS rest er n).2.1 (uintS rest er n).2.2 ∧ Upd w w' g := by
  obtain ⟨p, ha⟩ := h.at'
  exact (uint_any ha h.ok n).mono fun e w' ⟨e1, hw⟩ => ⟨e1, h.went hw, hw.2⟩
theorem RdA.int (h : RdA w0 w g b all rest er) (n : Int) :
    Calls Try.prog 45 #[.pointer (some ⟨g, 0, none⟩), .int .i64 n] w fun e w' => e = .returned (.int .i64 (intS rest er n).1) ∧ RdA w0 w' g b all (intS rest er n).2.1 (intS rest er n).2.2 ∧ Upd w w' g := by
  obtain ⟨p, ha⟩ := h.at'
  exact (int_any ha h.ok n).mono fun e w' ⟨e1, hw⟩ => ⟨e1, h.went hw, hw.2⟩
/-- The bytes that a call has answered: a slice of the call's own. -/
theorem RdA.bytes (h : RdA w0 w g b all rest er) (n : Int) :
    Calls Try.prog 48 #[.pointer (some ⟨g, 0, none⟩), .int .i64 n] w fun e w' => ∃ A c, e = .returned (.slice A (bytesS rest er n).1.length c) ∧ (bytesS rest er n).1.length ≤ c ∧ Kd.C (Kd.int .u8) w' A (bytesS rest er n).1.length (bytesS rest er n).1 ∧ RdA w0 w' g b all (bytesS rest er n).2.1 (bytesS rest er n).2.2 ∧ Upd w w' g ∧ w'.ownsRow w.heap.size 5 1 (.slice A (bytesS rest er n).1.length c) (bytesS rest er n).1.length (encs (Value.int .u8) (bytesS rest er n).1) := by
  obtain ⟨p, ha⟩ := h.at'
  refine (bytes_any ha n).mono ?_
  rintro e w' ⟨v, rfl, ho, hw⟩
  obtain ⟨A, c, rfl, hc, hC⟩ := Kd.R_reads (d := Kd.int .u8) (Kd.R_of_own (ok := fun _ => True) ho (fun _ _ => trivial))
  exact ⟨A, c, rfl, hc, hC, h.went hw, hw.2, ho⟩
theorem RdA.left (h : RdA w0 w g b all rest er) :
    Calls Try.prog 49 #[.pointer (some ⟨g, 0, none⟩)] w fun e w' => e = .returned (.int .i64 rest.length) ∧ w' = w := by
  obtain ⟨p, ha⟩ := h.at'
  exact left_any ha
theorem RdA.g_lt (h : RdA w0 w g b all rest er) : g < w.heap.size := by obtain ⟨p, ha⟩ := h.at'; exact lt_of_blk ha.blk
theorem RdA.b_lt (h : RdA w0 w g b all rest er) : b < w.heap.size := by obtain ⟨p, ha⟩ := h.at'; exact lt_of_blk ha.byt
theorem RdA.below' {w' : World} (h : RdA w0 w g b all rest er) (hb : Below w.heap.size w w') : RdA w0 w' g b all rest er := by
  obtain ⟨p, ha⟩ := h.at'
  exact ⟨⟨p, ha.below hb (lt_of_blk ha.blk) (lt_of_blk ha.byt)⟩, h.g0, h.b0, below_step h.low hb, h.ok⟩
/-- A reader that a call beside it leaves alone. -/
theorem RdA.upd {w' : World} {g' : Nat} (h : RdA w0 w g b all rest er) (hu : Upd w w' g') (h0 : w0.heap.size ≤ g') (h1 : g ≠ g') (h2 : b ≠ g') : RdA w0 w' g b all rest er := by
  obtain ⟨p, ha⟩ := h.at'
  exact ⟨⟨p, ha.keep hu h1 h2⟩, h.g0, h.b0, hu.below h.low h0 h.low.size, h.ok⟩
/-- NewReader. -/
theorem RdA.new {A : Option Addr} {c : Nat} {l : List Int} (hw : Below w0.heap.size w0 w) (hr : Kd.C (Kd.int .u8) w A l.length l) (hc : l.length ≤ c) (hb : l.length ≤ 140737488355000) (hk : bytesOk l) :
    Calls Try.prog 44 #[.slice A l.length c] w fun e w' => ∃ g b, e = .returned (.pointer (some ⟨g, 0, none⟩)) ∧ RdA w0 w' g b l l 0 ∧ Below w.heap.size w w' ∧ w.heap.size ≤ g ∧ w.heap.size ≤ b := by
  refine (new_reader hr hc hb).mono ?_
  rintro e w' ⟨g, b, p, rfl, h1, h2, ha, hl⟩
  exact ⟨g, b, rfl, ⟨⟨p, ha⟩, Nat.le_trans hw.size h1, Nat.le_trans hw.size h2, below_step hw hl, hk⟩, hl, h1, h2⟩
end
/-- A literal of bytes. -/
theorem lit_bytes {P : Program} {W : World} {ops : Array Oper} {rest : List Oper} {o : Oper} {a : Act} {Q : Exit → Act → World → Prop} (hgd : o.guard = none) {N : Tmp} (hd : o.dst = some N) (xs : List Int) (hm : xs.length ≤ 140737488355000)
    (hrun : (execOp a.eval o).run P W = .ok (.value (.slice (some ⟨W.heap.size, 0, none⟩) xs.length xs.length)) (W.alloc (.cells (encs (Value.int .u8) xs).toArray 5)))
    (h : ∀ A c w1, xs.length ≤ c → Kd.C (Kd.int .u8) w1 A xs.length xs → Below W.heap.size W w1 → wpList P ops Q rest (a.put o.dst (.slice A xs.length c)) w1) : wpList P ops Q (o :: rest) a W := by
  refine Kd.R_lit (w0 := W) (Kd.int .u8) W.heap.size 5 hgd hd (xs := xs) (inner := encs (Value.int .u8) xs) (ok := fun _ => True) (okp := fun _ => True) hrun ?_ (fun _ h => h) trivial (Below.refl _ _) (Nat.le_refl _) (by omega) ?_
  · exact Kd.reps_scalar xs
  · intro v w1 ho hb _ _
    obtain ⟨A, c, rfl, hc, hC⟩ := Kd.R_reads ho
    exact h A c w1 hc hC hb
end Go.Proofs.Ythneihebdlppeaa.Rd
