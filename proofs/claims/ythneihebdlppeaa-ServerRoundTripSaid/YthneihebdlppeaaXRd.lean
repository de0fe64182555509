/- wire.Reader: what each of its calls does to a reader that has bytes left, and to nothing else. -/
import Derived.Laws.CopyOwn
import Derived.Lib.SmallJoins
import Derived.Lib.Hide
import Derived.WalkSpells
import Derived.BigQuiet
import Derived.Test.YthneihebdlppeaaV
import Derived.Test.YthneihebdlppeaaXSet
import Derived.Test.YthneihebdlppeaaProg
namespace Go.Proofs.Ythneihebdlppeaa.Rd
set_option linter.unusedVariables false
open Go.RowKit Go.Proofs.YthneihebdlppeaaW.PrintWords Go.Proofs.YthneihebdlppeaaW.PrintLast Go.Proofs.YthneihebdlppeaaW.PrintMore

/-- Only block g of w has turned; new blocks may lie behind. -/
structure Upd (w w' : World) (g : Nat) : Prop where
  os : w'.os = w.os
  tape : w'.tape = w.tape
  output : w'.output = w.output
  size : w.heap.size ≤ w'.heap.size
  block : ∀ k, k < w.heap.size → k ≠ g → w'.heap[k]? = w.heap[k]?
theorem Upd.refl (w : World) (g : Nat) : Upd w w g := ⟨rfl, rfl, rfl, Nat.le_refl _, fun _ _ _ => rfl⟩
theorem Upd.set (w : World) (g j : Nat) (v : Value) : Upd w (w.setCell ⟨g, j, none⟩ v) g :=
  ⟨rfl, rfl, rfl, by simp [World.setCell], fun k _ hk => Below.heap_setCell w ⟨g, j, none⟩ v k hk⟩
theorem Upd.trans {w w1 w2 : World} {g : Nat} (h : Upd w w1 g) (h' : Upd w1 w2 g) : Upd w w2 g :=
  ⟨h'.os.trans h.os, h'.tape.trans h.tape, h'.output.trans h.output, Nat.le_trans h.size h'.size, fun k hk hg => (h'.block k (Nat.lt_of_lt_of_le hk h.size) hg).trans (h.block k hk hg)⟩
theorem Upd.of_below {w w1 : World} (h : Below w.heap.size w w1) (g : Nat) : Upd w w1 g := ⟨h.os, h.tape, h.output, h.size, fun k hk _ => h.block k hk⟩
theorem Upd.below {B : Nat} {w0 w w1 : World} {g : Nat} (h : Upd w w1 g) (hb : Below B w0 w) (hg : B ≤ g) (hB : B ≤ w.heap.size) : Below B w0 w1 :=
  ⟨h.os.trans hb.os, h.tape.trans hb.tape, h.output.trans hb.output, Nat.le_trans hb.size h.size, fun k hk => (h.block k (Nat.lt_of_lt_of_le hk hB) (by omega)).trans (hb.block k hk)⟩

/-- A reader at block g over the bytes of block b: those that are left, and the error. -/
structure At (w : World) (g b : Nat) (all rest : List Int) (err : Int) (p : Option Addr) : Prop where
  blk : w.heap[g]? = some (.cells #[.slice p rest.length rest.length, .int .i64 err] 98 (0, 0))
  byt : w.heap[b]? = some (.cells (encs (Value.int .u8) all).toArray 5 (0, 0))
  ne : g ≠ b
  le : rest.length ≤ all.length
  suf : rest = all.drop (all.length - rest.length)
  ptr : 0 < rest.length → p = some ⟨b, all.length - rest.length, none⟩
  big : all.length ≤ 140737488355000

theorem lt_of_blk {w : World} {g : Nat} {o : Obj} (h : w.heap[g]? = some o) : g < w.heap.size := by
  rcases Nat.lt_or_ge g w.heap.size with h' | h'
  · exact h'
  · rw [Array.getElem?_eq_none h'] at h; cases h
theorem At.keep {w w' : World} {g b g' : Nat} {all rest : List Int} {err : Int} {p : Option Addr} (h : At w g b all rest err p) (hu : Upd w w' g') (h1 : g ≠ g') (h2 : b ≠ g') : At w' g b all rest err p :=
  ⟨(hu.block g (lt_of_blk h.blk) h1).trans h.blk, (hu.block b (lt_of_blk h.byt) h2).trans h.byt, h.ne, h.le, h.suf, h.ptr, h.big⟩
theorem addr_add (b o n : Nat) : (Addr.mk b o none).add n = ⟨b, o + n, none⟩ := by
  unfold Addr.add
  by_cases h : n = 0
  · subst h; simp
  · rw [if_neg h]
/-- The bytes that are left, as a slice to be read. -/
theorem reads_of {w0 w : World} {g b : Nat} {all rest : List Int} {err : Int} {p : Option Addr} (hbyt : w.heap[b]? = some (.cells (encs (Value.int .u8) all).toArray 5 (0, 0))) (h : At w0 g b all rest err p) (n : Nat) (hn : n ≤ rest.length) : Kd.C (Kd.int .u8) w p n (rest.take n) := by
  refine ⟨by rw [List.length_take]; omega, by have := h.le; have := h.big; omega, fun h0 => ⟨_, h.ptr (by omega), fun j x hj => ⟨[.int .u8 x], rfl, rfl, fun i u hu => ?_⟩⟩⟩
  have hi : i = 0 := by
    rcases i with _ | i
    · rfl
    · simp at hu
  subst hi
  simp only [List.getElem?_cons_zero, Option.some.injEq] at hu
  subst hu
  have hjn : j < n := by
    rcases Nat.lt_or_ge j n with h' | h'
    · exact h'
    · rw [List.getElem?_eq_none (by rw [List.length_take]; omega)] at hj; cases hj
  rw [List.getElem?_take_of_lt hjn, h.suf, List.getElem?_drop] at hj
  have ea : (Addr.mk b (all.length - rest.length) none).add (j * (Kd.int IntKind.u8).sz + 0) = ⟨b, all.length - rest.length + j, none⟩ := by
    rw [addr_add]; simp [Kd.int, Kd.scalar]
  rw [ea, Joins.cell_of_block hbyt, List.getElem?_toArray, encs, List.getElem?_map, hj]
  rfl

theorem At.reads {w : World} {g b : Nat} {all rest : List Int} {err : Int} {p : Option Addr} (h : At w g b all rest err p) (n : Nat) (hn : n ≤ rest.length) : Kd.C (Kd.int .u8) w p n (rest.take n) := reads_of h.byt h n hn

section
variable {w : World} {g b : Nat} {all rest : List Int} {err : Int} {p : Option Addr}
theorem At.cell0 (h : At w g b all rest err p) : w.cell? ⟨g, 0, none⟩ = some (.slice p rest.length rest.length) := by rw [Joins.cell_of_block h.blk]; rfl
theorem At.cell1 (h : At w g b all rest err p) : w.cell? ⟨g, 1, none⟩ = some (.int .i64 err) := by rw [Joins.cell_of_block h.blk]; rfl
theorem At.free (h : At w g b all rest err p) (i : Nat) : w.frozen? ⟨g, i, none⟩ = false := Joins.unfrozen_of_block h.blk i
/-- An error is noted. -/
theorem At.note (h : At w g b all rest err p) (e : Int) : At (w.setCell ⟨g, 1, none⟩ (.int .i64 e)) g b all rest e p := by
  refine ⟨?_, ?_, h.ne, h.le, h.suf, h.ptr, h.big⟩
  · rw [Joins.block_setCell h.blk]; rfl
  · exact (Below.heap_setCell w ⟨g, 1, none⟩ _ b (fun e => h.ne e.symm)).trans h.byt
/-- Bytes are consumed. -/
theorem At.gone (h : At w g b all rest err p) (n : Nat) (hn : n ≤ rest.length) (p' : Option Addr) (hp : n < rest.length → p' = p.map (·.add n)) :
    At (w.setCell ⟨g, 0, none⟩ (.slice p' (rest.length - n) (rest.length - n))) g b all (rest.drop n) err p' := by
  have hl : (rest.drop n).length = rest.length - n := List.length_drop
  refine ⟨?_, ?_, h.ne, ?_, ?_, ?_, h.big⟩
  · rw [Joins.block_setCell h.blk, hl]; rfl
  · exact (Below.heap_setCell w ⟨g, 0, none⟩ _ b (fun e => h.ne e.symm)).trans h.byt
  · have := h.le; omega
  · have e := h.suf
    have hle := h.le
    rw [hl]
    conv => lhs; rw [e, List.drop_drop]
    congr 1
    omega
  · intro h0
    have hle := h.le
    rw [hl] at h0 ⊢
    rw [hp (by omega), h.ptr (by omega)]
    rw [Option.map_some, addr_add]
    congr 2
    omega

/-! ### take -/
theorem take_stopped (h : At w g b all rest err p) (he : err ≠ 0) (n : Int) (ok : Bool) :
    Calls Try.prog 57 #[.pointer (some ⟨g, 0, none⟩), .int .i64 n, .bool ok] w fun e w' => e = .returned (.tuple #[.slice none 0 0, .bool false]) ∧ w' = w := by
  have c1 := h.cell1
  have he2 : (err != 0) = true := by simpa using he
  clear he h
  go_enter Try.func57, Try.ntmps57
  go_wp2
  go_ret2
  exact ⟨rfl, rfl⟩
theorem take_wrong (h : At w g b all rest 0 p) (n : Int) :
    Calls Try.prog 57 #[.pointer (some ⟨g, 0, none⟩), .int .i64 n, .bool false] w fun e w' => e = .returned (.tuple #[.slice none 0 0, .bool false]) ∧ w' = w.setCell ⟨g, 1, none⟩ (.int .i64 2) := by
  have c1 := h.cell1
  have f1 := h.free 1
  clear h
  go_enter Try.func57, Try.ntmps57
  go_wp2
  go_ret2
  exact ⟨rfl, rfl⟩
theorem take_short (h : At w g b all rest 0 p) (n : Int) (hn : (rest.length : Int) < n) :
    Calls Try.prog 57 #[.pointer (some ⟨g, 0, none⟩), .int .i64 n, .bool true] w fun e w' => e = .returned (.tuple #[.slice none 0 0, .bool false]) ∧ w' = w.setCell ⟨g, 1, none⟩ (.int .i64 5) := by
  have c1 := h.cell1
  have c0 := h.cell0
  have f1 := h.free 1
  have d : decide ((rest.length : Int) < n) = true := decide_eq_true hn
  clear h
  go_enter Try.func57, Try.ntmps57
  go_wp2
  go_ret2
  exact ⟨rfl, rfl⟩
theorem take_some (h : At w g b all rest 0 p) (n : Nat) (hn : n ≤ rest.length) :
    Calls Try.prog 57 #[.pointer (some ⟨g, 0, none⟩), .int .i64 n, .bool true] w fun e w' => e = .returned (.tuple #[.slice p n rest.length, .bool true]) ∧ ∃ p', At w' g b all (rest.drop n) 0 p' ∧ Upd w w' g := by
  have c1 := h.cell1
  have c0 := h.cell0
  have f0 := h.free 0
  have d : decide ((rest.length : Int) < n) = false := decide_eq_false (by omega)
  have H := Lib.hid h
  clear h
  by_cases hz : n = rest.length
  · subst hz
    go_enter Try.func57, Try.ntmps57
    go_wp2
    go_ret2
    refine ⟨rfl, p, ?_, Upd.set _ _ _ _⟩
    have e := H.out.gone rest.length (Nat.le_refl _) p (fun h' => by omega)
    rw [Nat.sub_self] at e
    exact e
  · go_enter Try.func57, Try.ntmps57
    have hlt : n < rest.length := by omega
    go_wp2
    go_ret2
    refine ⟨rfl, p.map (·.add n), ?_, Upd.set _ _ _ _⟩
    exact H.out.gone n hn _ (fun h' => rfl)
end
end Go.Proofs.Ythneihebdlppeaa.Rd
