/- Texts of this claim, laid together: each says itself what it proves. -/
import Derived.Test.YtjbjkjlfikfeeaaM0
import Derived.Test.YtjbjkjlfikfeeaaM1
import Derived.Laws.CopyOwn
import Derived.Lib.SmallJoins
import Derived.Lib.Hide
import Derived.WalkSpells
import Derived.BigQuiet
import Derived.Test.YtjbjkjlfikfeeaaV
import Derived.Test.YtjbjkjlfikfeeaaProg
/- The types of the laws' arguments, opened: what each value of them that can be read holds, and how large its parts are. -/
namespace Go.Proofs.Ytjbjkjlfikfeeaa.P
open Go.RowKit Go.Proofs.YtjbjkjlfikfeeaaW.PrintWords Go.Proofs.YtjbjkjlfikfeeaaW.PrintLast
def ok46 (x : S46) : Prop := (Lit.int .i64 x.f0).wf = true ∧ (Lit.int .i64 x.f1).wf = true ∧ (Lit.int .i64 x.f2).wf = true ∧ (Lit.int .i64 x.f3).wf = true ∧ (Lit.int .i64 x.f4).wf = true ∧ (Lit.int .i64 x.f5).wf = true ∧ (Lit.int .u32 x.f6).wf = true ∧ (Lit.int .u32 x.f7).wf = true ∧ (Lit.int .u32 x.f8).wf = true ∧ (Lit.int .u64 x.f9).wf = true ∧ (Lit.int .u64 x.f10).wf = true ∧ (Lit.int .u64 x.f11).wf = true ∧ (Lit.int .u64 x.f12).wf = true
theorem opens46 : Op.Opens Try.prog 46 k46 ok46 := Op.Opens.struct (fun x : S46 => (x.f0, x.f1, x.f2, x.f3, x.f4, x.f5, x.f6, x.f7, x.f8, x.f9, x.f10, x.f11, x.f12)) (fun p => (⟨p.1, p.2.1, p.2.2.1, p.2.2.2.1, p.2.2.2.2.1, p.2.2.2.2.2.1, p.2.2.2.2.2.2.1, p.2.2.2.2.2.2.2.1, p.2.2.2.2.2.2.2.2.1, p.2.2.2.2.2.2.2.2.2.1, p.2.2.2.2.2.2.2.2.2.2.1, p.2.2.2.2.2.2.2.2.2.2.2.1, p.2.2.2.2.2.2.2.2.2.2.2.2⟩ : S46)) (fun _ => rfl) Try.underlying46 (by kernel_rfl) (Op.Chain.cons (Op.Opens.int Try.underlying3 (by kernel_rfl)) rfl (Op.Chain.cons (Op.Opens.int Try.underlying3 (by kernel_rfl)) rfl (Op.Chain.cons (Op.Opens.int Try.underlying3 (by kernel_rfl)) rfl (Op.Chain.cons (Op.Opens.int Try.underlying3 (by kernel_rfl)) rfl (Op.Chain.cons (Op.Opens.int Try.underlying3 (by kernel_rfl)) rfl (Op.Chain.cons (Op.Opens.int Try.underlying3 (by kernel_rfl)) rfl (Op.Chain.cons (Op.Opens.int Try.underlying44 (by kernel_rfl)) rfl (Op.Chain.cons (Op.Opens.int Try.underlying44 (by kernel_rfl)) rfl (Op.Chain.cons (Op.Opens.int Try.underlying44 (by kernel_rfl)) rfl (Op.Chain.cons (Op.Opens.int Try.underlying41 (by kernel_rfl)) rfl (Op.Chain.cons (Op.Opens.int Try.underlying41 (by kernel_rfl)) rfl (Op.Chain.cons (Op.Opens.int Try.underlying41 (by kernel_rfl)) rfl (Op.Chain.one (Op.Opens.int Try.underlying41 (by kernel_rfl)) rfl)))))))))))))
def ok80 (x : S80) : Prop := (Lit.int .i64 x.f0).wf = true ∧ (Lit.int .i64 x.f1).wf = true
theorem opens80 : Op.Opens Try.prog 80 k80 ok80 := Op.Opens.struct (fun x : S80 => (x.f0, x.f1)) (fun p => (⟨p.1, p.2⟩ : S80)) (fun _ => rfl) Try.underlying80 (by kernel_rfl) (Op.Chain.cons (Op.Opens.int Try.underlying3 (by kernel_rfl)) rfl (Op.Chain.one (Op.Opens.int Try.underlying3 (by kernel_rfl)) rfl))
def bytes80 : Nat := 16
def ok24 (x : S24) : Prop := (Lit.int .i64 x.f0).wf = true ∧ (x.f1.length ≤ maxLen ∧ x.f1.length * bytes80 ≤ reachBytes ∧ ∀ y0 ∈ x.f1, ok80 y0)
theorem opens24 : Op.Opens Try.prog 24 k24 ok24 := Op.Opens.struct (fun x : S24 => (x.f0, x.f1)) (fun p => (⟨p.1, p.2⟩ : S24)) (fun _ => rfl) Try.underlying24 (by kernel_rfl) (Op.Chain.cons (Op.Opens.int Try.underlying3 (by kernel_rfl)) rfl (Op.Chain.one (Op.Opens.slice (B := bytes80) z80 Try.underlying22 (by kernel_rfl) (by kernel_rfl) opens80) rfl))
def ok26 (x : S26) : Prop := (Lit.int .i64 x.f0).wf = true ∧ (Lit.int .i64 x.f1).wf = true ∧ (Lit.int .i64 x.f2).wf = true ∧ (Lit.int .i64 x.f3).wf = true ∧ (Lit.int .i64 x.f4).wf = true ∧ (Lit.int .i64 x.f5).wf = true
theorem opens26 : Op.Opens Try.prog 26 k26 ok26 := Op.Opens.struct (fun x : S26 => (x.f0, x.f1, x.f2, x.f3, x.f4, x.f5)) (fun p => (⟨p.1, p.2.1, p.2.2.1, p.2.2.2.1, p.2.2.2.2.1, p.2.2.2.2.2⟩ : S26)) (fun _ => rfl) Try.underlying26 (by kernel_rfl) (Op.Chain.cons (Op.Opens.int Try.underlying3 (by kernel_rfl)) rfl (Op.Chain.cons (Op.Opens.int Try.underlying3 (by kernel_rfl)) rfl (Op.Chain.cons (Op.Opens.int Try.underlying3 (by kernel_rfl)) rfl (Op.Chain.cons (Op.Opens.int Try.underlying3 (by kernel_rfl)) rfl (Op.Chain.cons (Op.Opens.int Try.underlying3 (by kernel_rfl)) rfl (Op.Chain.one (Op.Opens.int Try.underlying3 (by kernel_rfl)) rfl))))))
def ok40 (x : S40) : Prop := (Lit.int .i64 x.f0).wf = true ∧ (Lit.int .i64 x.f1).wf = true ∧ (Lit.int .i64 x.f2).wf = true ∧ (Lit.int .i64 x.f3).wf = true
theorem opens40 : Op.Opens Try.prog 40 k40 ok40 := Op.Opens.struct (fun x : S40 => (x.f0, x.f1, x.f2, x.f3)) (fun p => (⟨p.1, p.2.1, p.2.2.1, p.2.2.2⟩ : S40)) (fun _ => rfl) Try.underlying40 (by kernel_rfl) (Op.Chain.cons (Op.Opens.int Try.underlying3 (by kernel_rfl)) rfl (Op.Chain.cons (Op.Opens.int Try.underlying3 (by kernel_rfl)) rfl (Op.Chain.cons (Op.Opens.int Try.underlying3 (by kernel_rfl)) rfl (Op.Chain.one (Op.Opens.int Try.underlying3 (by kernel_rfl)) rfl))))
end Go.Proofs.Ytjbjkjlfikfeeaa.P
namespace Go.Proofs.Ytjbjkjlfikfeeaa.P
open Go.RowKit Go.Proofs.YtjbjkjlfikfeeaaW.PrintWords Go.Proofs.YtjbjkjlfikfeeaaW.PrintLast Go.Proofs.YtjbjkjlfikfeeaaW.PrintMore
attribute [local go_sem] max2_int min2_int max_two min_two max_three min_three max_four min_four Go.Proofs.Ytjbjkjlfikfeeaa.Op.isSome_setCell   -- for this text's walks alone
set_option linter.unusedVariables false
set_option linter.unusedSimpArgs false

/-! ### assoc_inside: function 31 -/
def assoc_inside.f (a0 : Int) : Option (Bool) := if a0 ≥ (-4503599627370496) then (some (decide (a0 ≤ 4503599627370496))) else (some false)
set_option maxHeartbeats 8000000 in
set_option maxRecDepth 100000 in
theorem assoc_inside.calls (a0 : Int) (r : Bool) (w : World) (h : assoc_inside.f a0 = some r) :
    Calls Try.prog 31 #[.int .i64 a0] w fun e w' => e = .returned (.bool r) ∧ Drawn0 w w' := by
  have H : (if a0 ≥ (-4503599627370496) then (some (decide (a0 ≤ 4503599627370496))) else (some false)) = some r := h
  clear h
  by_cases c2 : a0 ≥ (-4503599627370496)
  · rw [if_pos c2] at H
    have c2b0 : decide ((-4503599627370496) ≤ a0) = true := decide_eq_true c2
    clear c2
    obtain rfl := Option.some.inj H
    go_enter Try.func31, Try.ntmps31
    go_wp2
    go_ret
    exact ⟨by first | rfl | (simp; done) | (simp [*]; done), by repeat (first | exact Drawn0.refl _ | apply Drawn0.step)⟩
  · rw [if_neg c2] at H
    have c2b0 : decide ((-4503599627370496) ≤ a0) = false := decide_eq_false c2
    clear c2
    obtain rfl := Option.some.inj H
    go_enter Try.func31, Try.ntmps31
    go_wp2
    go_ret
    exact ⟨by first | rfl | (simp; done) | (simp [*]; done), by repeat (first | exact Drawn0.refl _ | apply Drawn0.step)⟩

/-- THE ONE PURE STATEMENT of assoc_inside: yours. -/
def assoc_inside.Pure : Prop := ∀ (a0 : Int), (Lit.int .i64 a0).wf = true → assoc_inside.f a0 = some true
theorem assoc_inside.walk (P : assoc_inside.Pure) (a0 : Int) (w : World) (w0 : (Lit.int .i64 a0).wf = true) :
    Calls Try.prog 31 #[.int .i64 a0] w fun e w' => e = .returned (.bool true) ∧ Below w.heap.size w w' := by
  have h := P a0 w0
  refine (assoc_inside.calls a0 true w h).mono ?_
  rintro e w' ⟨rfl, hd⟩
  exact ⟨rfl, hd.below⟩

end Go.Proofs.Ytjbjkjlfikfeeaa.P
/- wire.Reader: what each of its calls does to a reader that has bytes left, and to nothing else. -/
namespace Go.Proofs.Ytjbjkjlfikfeeaa.Rd
set_option linter.unusedVariables false
open Go.RowKit Go.Proofs.YtjbjkjlfikfeeaaW.PrintWords Go.Proofs.YtjbjkjlfikfeeaaW.PrintLast Go.Proofs.YtjbjkjlfikfeeaaW.PrintMore

/-- Only block g of w has turned; new blocks may lie behind. -/
structure Upd (w w' : World) (g : Nat) : Prop where
  os : w'.os = w.os
  tape : w'.tape = w.tape
  output : w'.output = w.output
  size : w.heap.size ≤ w'.heap.size
  block : ∀ k, k < w.heap.size → k ≠ g → w'.heap[k]? = w.heap[k]?
theorem Upd.refl (w : World) (g : Nat) : Upd w w g := ⟨rfl, rfl, rfl, Nat.le_refl _, fun _ _ _ => rfl⟩
theorem Upd.set (w : World) (g j : Nat) (v : Value) : Upd w (w.setCell ⟨g, j, none⟩ v) g :=
  ⟨rfl, rfl, rfl, by simp [World.setCell], fun k _ hk => Below.heap_setCell w ⟨g, j, none⟩ v k hk⟩
theorem Upd.trans {w w1 w2 : World} {g : Nat} (h : Upd w w1 g) (h' : Upd w1 w2 g) : Upd w w2 g :=
  ⟨h'.os.trans h.os, h'.tape.trans h.tape, h'.output.trans h.output, Nat.le_trans h.size h'.size, fun k hk hg => (h'.block k (Nat.lt_of_lt_of_le hk h.size) hg).trans (h.block k hk hg)⟩
theorem Upd.of_below {w w1 : World} (h : Below w.heap.size w w1) (g : Nat) : Upd w w1 g := ⟨h.os, h.tape, h.output, h.size, fun k hk _ => h.block k hk⟩
theorem Upd.below {B : Nat} {w0 w w1 : World} {g : Nat} (h : Upd w w1 g) (hb : Below B w0 w) (hg : B ≤ g) (hB : B ≤ w.heap.size) : Below B w0 w1 :=
  ⟨h.os.trans hb.os, h.tape.trans hb.tape, h.output.trans hb.output, Nat.le_trans hb.size h.size, fun k hk => (h.block k (Nat.lt_of_lt_of_le hk hB) (by omega)).trans (hb.block k hk)⟩

/-- A reader at block g over the bytes of block b: those that are left, and the error. -/
structure At (w : World) (g b : Nat) (all rest : List Int) (err : Int) (p : Option Addr) : Prop where
  blk : w.heap[g]? = some (.cells #[.slice p rest.length rest.length, .int .i64 err] 139 (0, 0))
  byt : w.heap[b]? = some (.cells (encs (Value.int .u8) all).toArray 5 (0, 0))
  ne : g ≠ b
  le : rest.length ≤ all.length
  suf : rest = all.drop (all.length - rest.length)
  ptr : 0 < rest.length → p = some ⟨b, all.length - rest.length, none⟩
  big : all.length ≤ 140737488355000

theorem lt_of_blk {w : World} {g : Nat} {o : Obj} (h : w.heap[g]? = some o) : g < w.heap.size := by
  rcases Nat.lt_or_ge g w.heap.size with h' | h'
  · exact h'
  · rw [Array.getElem?_eq_none h'] at h; cases h
theorem At.keep {w w' : World} {g b g' : Nat} {all rest : List Int} {err : Int} {p : Option Addr} (h : At w g b all rest err p) (hu : Upd w w' g') (h1 : g ≠ g') (h2 : b ≠ g') : At w' g b all rest err p :=
  ⟨(hu.block g (lt_of_blk h.blk) h1).trans h.blk, (hu.block b (lt_of_blk h.byt) h2).trans h.byt, h.ne, h.le, h.suf, h.ptr, h.big⟩
theorem addr_add (b o n : Nat) : (Addr.mk b o none).add n = ⟨b, o + n, none⟩ := by
  unfold Addr.add
  by_cases h : n = 0
  · subst h; simp
  · rw [if_neg h]
/-- The bytes that are left, as a slice to be read. -/
theorem reads_of {w0 w : World} {g b : Nat} {all rest : List Int} {err : Int} {p : Option Addr} (hbyt : w.heap[b]? = some (.cells (encs (Value.int .u8) all).toArray 5 (0, 0))) (h : At w0 g b all rest err p) (n : Nat) (hn : n ≤ rest.length) : Kd.C (Kd.int .u8) w p n (rest.take n) := by
  refine ⟨by rw [List.length_take]; omega, by have := h.le; have := h.big; omega, fun h0 => ⟨_, h.ptr (by omega), fun j x hj => ⟨[.int .u8 x], rfl, rfl, fun i u hu => ?_⟩⟩⟩
  have hi : i = 0 := by
    rcases i with _ | i
    · rfl
    · simp at hu
  subst hi
  simp only [List.getElem?_cons_zero, Option.some.injEq] at hu
  subst hu
  have hjn : j < n := by
    rcases Nat.lt_or_ge j n with h' | h'
    · exact h'
    · rw [List.getElem?_eq_none (by rw [List.length_take]; omega)] at hj; cases hj
  rw [List.getElem?_take_of_lt hjn, h.suf, List.getElem?_drop] at hj
  have ea : (Addr.mk b (all.length - rest.length) none).add (j * (Kd.int IntKind.u8).sz + 0) = ⟨b, all.length - rest.length + j, none⟩ := by
    rw [addr_add]; simp [Kd.int, Kd.scalar]
  rw [ea, Joins.cell_of_block hbyt, List.getElem?_toArray, encs, List.getElem?_map, hj]
  rfl

theorem At.reads {w : World} {g b : Nat} {all rest : List Int} {err : Int} {p : Option Addr} (h : At w g b all rest err p) (n : Nat) (hn : n ≤ rest.length) : Kd.C (Kd.int .u8) w p n (rest.take n) := reads_of h.byt h n hn

section
variable {w : World} {g b : Nat} {all rest : List Int} {err : Int} {p : Option Addr}
theorem At.cell0 (h : At w g b all rest err p) : w.cell? ⟨g, 0, none⟩ = some (.slice p rest.length rest.length) := by rw [Joins.cell_of_block h.blk]; rfl
theorem At.cell1 (h : At w g b all rest err p) : w.cell? ⟨g, 1, none⟩ = some (.int .i64 err) := by rw [Joins.cell_of_block h.blk]; rfl
theorem At.free (h : At w g b all rest err p) (i : Nat) : w.frozen? ⟨g, i, none⟩ = false := Joins.unfrozen_of_block h.blk i
/-- An error is noted. -/
theorem At.note (h : At w g b all rest err p) (e : Int) : At (w.setCell ⟨g, 1, none⟩ (.int .i64 e)) g b all rest e p := by
  refine ⟨?_, ?_, h.ne, h.le, h.suf, h.ptr, h.big⟩
  · rw [Joins.block_setCell h.blk]; rfl
  · exact (Below.heap_setCell w ⟨g, 1, none⟩ _ b (fun e => h.ne e.symm)).trans h.byt
/-- Bytes are consumed. -/
theorem At.gone (h : At w g b all rest err p) (n : Nat) (hn : n ≤ rest.length) (p' : Option Addr) (hp : n < rest.length → p' = p.map (·.add n)) :
    At (w.setCell ⟨g, 0, none⟩ (.slice p' (rest.length - n) (rest.length - n))) g b all (rest.drop n) err p' := by
  have hl : (rest.drop n).length = rest.length - n := List.length_drop
  refine ⟨?_, ?_, h.ne, ?_, ?_, ?_, h.big⟩
  · rw [Joins.block_setCell h.blk, hl]; rfl
  · exact (Below.heap_setCell w ⟨g, 0, none⟩ _ b (fun e => h.ne e.symm)).trans h.byt
  · have := h.le; omega
  · have e := h.suf
    have hle := h.le
    rw [hl]
    conv => lhs; rw [e, List.drop_drop]
    congr 1
    omega
  · intro h0
    have hle := h.le
    rw [hl] at h0 ⊢
    rw [hp (by omega), h.ptr (by omega)]
    rw [Option.map_some, addr_add]
    congr 2
    omega

/-! ### take -/
theorem take_stopped (h : At w g b all rest err p) (he : err ≠ 0) (n : Int) (ok : Bool) :
    Calls Try.prog 64 #[.pointer (some ⟨g, 0, none⟩), .int .i64 n, .bool ok] w fun e w' => e = .returned (.tuple #[.slice none 0 0, .bool false]) ∧ w' = w := by
  have c1 := h.cell1
  have he2 : (err != 0) = true := by simpa using he
  clear he h
  go_enter Try.func64, Try.ntmps64
  go_wp2
  go_ret2
  exact ⟨rfl, rfl⟩
theorem take_wrong (h : At w g b all rest 0 p) (n : Int) :
    Calls Try.prog 64 #[.pointer (some ⟨g, 0, none⟩), .int .i64 n, .bool false] w fun e w' => e = .returned (.tuple #[.slice none 0 0, .bool false]) ∧ w' = w.setCell ⟨g, 1, none⟩ (.int .i64 2) := by
  have c1 := h.cell1
  have f1 := h.free 1
  clear h
  go_enter Try.func64, Try.ntmps64
  go_wp2
  go_ret2
  exact ⟨rfl, rfl⟩
theorem take_short (h : At w g b all rest 0 p) (n : Int) (hn : (rest.length : Int) < n) :
    Calls Try.prog 64 #[.pointer (some ⟨g, 0, none⟩), .int .i64 n, .bool true] w fun e w' => e = .returned (.tuple #[.slice none 0 0, .bool false]) ∧ w' = w.setCell ⟨g, 1, none⟩ (.int .i64 5) := by
  have c1 := h.cell1
  have c0 := h.cell0
  have f1 := h.free 1
  have d : decide ((rest.length : Int) < n) = true := decide_eq_true hn
  clear h
  go_enter Try.func64, Try.ntmps64
  go_wp2
  go_ret2
  exact ⟨rfl, rfl⟩
theorem take_some (h : At w g b all rest 0 p) (n : Nat) (hn : n ≤ rest.length) :
    Calls Try.prog 64 #[.pointer (some ⟨g, 0, none⟩), .int .i64 n, .bool true] w fun e w' => e = .returned (.tuple #[.slice p n rest.length, .bool true]) ∧ ∃ p', At w' g b all (rest.drop n) 0 p' ∧ Upd w w' g := by
  have c1 := h.cell1
  have c0 := h.cell0
  have f0 := h.free 0
  have d : decide ((rest.length : Int) < n) = false := decide_eq_false (by omega)
  have H := Lib.hid h
  clear h
  by_cases hz : n = rest.length
  · subst hz
    go_enter Try.func64, Try.ntmps64
    go_wp2
    go_ret2
    refine ⟨rfl, p, ?_, Upd.set _ _ _ _⟩
    have e := H.out.gone rest.length (Nat.le_refl _) p (fun h' => by omega)
    rw [Nat.sub_self] at e
    exact e
  · go_enter Try.func64, Try.ntmps64
    have hlt : n < rest.length := by omega
    go_wp2
    go_ret2
    refine ⟨rfl, p.map (·.add n), ?_, Upd.set _ _ _ _⟩
    exact H.out.gone n hn _ (fun h' => rfl)
end
end Go.Proofs.Ytjbjkjlfikfeeaa.Rd
/- wire.Get of a slice's first bytes, and the calls of a reader: Uint, Int, Skip, Bytes, Left, Err, NewReader. -/
namespace Go.Proofs.Ytjbjkjlfikfeeaa.Rd
set_option linter.unusedVariables false
set_option linter.unusedSimpArgs false
open Go.RowKit Go.Proofs.YtjbjkjlfikfeeaaW.PrintWords Go.Proofs.YtjbjkjlfikfeeaaW.PrintLast Go.Proofs.YtjbjkjlfikfeeaaW.PrintMore

/-- The number that the first k bytes are, as Go adds them up. -/
def acc (l : List Int) : Nat → Int
  | 0 => 0
  | k + 1 => Go.bits .or .u64 (IntKind.u64.wrap (acc l k * 256)) (rd l k)
theorem acc_range (l : List Int) (k : Nat) : 0 ≤ acc l k ∧ acc l k < 18446744073709551616 := by
  cases k with
  | zero => simp [acc]
  | succ k =>
    have h : ∀ x y : Int, 0 ≤ Go.bits .or .u64 x y ∧ Go.bits .or .u64 x y < 18446744073709551616 := by
      intro x y
      have e : Go.bits .or .u64 x y = IntKind.u64.wrap ((BitVec.ofInt 64 x ||| BitVec.ofInt 64 y).toNat : Int) := rfl
      rw [e, IntKind.wrap_u64]; omega
    exact h _ _
/-- The bytes of a slice. -/
def bytesOk (l : List Int) : Prop := ∀ x ∈ l, 0 ≤ x ∧ x ≤ 255
theorem rd_byte {l : List Int} (h : bytesOk l) (k : Nat) : 0 ≤ rd l (k : Int) ∧ rd l (k : Int) ≤ 255 := by
  unfold rd
  rw [Int.toNat_natCast, List.getD_eq_getElem?_getD]
  cases hx : l[k]? with
  | none => simp
  | some x =>
    rw [Option.getD_some]
    exact h x (List.mem_of_getElem? hx)
set_option maxHeartbeats 1000000 in
theorem get_all (w : World) (p : Option Addr) (n c : Nat) (l : List Int) (hr : Kd.C (Kd.int .u8) w p n l) (hb : bytesOk l) (h1 : 1 ≤ n) (h8 : n ≤ 8) :
    Calls Try.prog 44 #[.slice p n c, .int .i64 0, .int .i64 n] w fun e w' => e = .returned (.tuple #[.int .u64 (acc l n), .int .i64 0]) ∧ w' = w := by
  have d1 : decide (1 ≤ (n : Int)) = true := decide_eq_true (by omega)
  have d2 : decide ((n : Int) ≤ 8) = true := decide_eq_true (by omega)
  have b1 : (n : Int) ≤ 8 := by omega
  have b0 : 1 ≤ (n : Int) := by omega
  have hc : ∀ k : Nat, k < n → ∃ ad, p = some ad ∧ w.cell? (ad.add k) = some (.int .u8 (rd l k)) := by
    intro k hk
    obtain ⟨ad, e, hcell⟩ := Kd.at_int hr (k : Int) (by omega) (by omega)
    rw [Int.toNat_natCast] at hcell
    exact ⟨ad, e, hcell⟩
  obtain ⟨ad, rfl, _⟩ := hc 0 (by omega)
  have HC : Hid (∀ k : Nat, k < n → w.cell? (ad.add k) = some (.int .u8 (rd l k))) := by
    show ∀ k : Nat, _ → _
    intro k hk
    obtain ⟨ad', e, h'⟩ := hc k hk
    cases e
    exact h'
  clear hc hr
  go_enter Try.func44, Try.ntmps44
  go_wp2
  go_loop [8, 9, 24] (fun v8 _ v24 => ∃ k : Nat, k ≤ n ∧ v24 = .int .i64 k ∧ v8 = .int .u64 (acc l k)) (fun _ _ v24 => n - (intOf v24).toNat)
  case atStart => exact ⟨0, Nat.zero_le _, rfl, rfl⟩
  case round =>
    obtain ⟨k, hk, rfl, rfl⟩ := hrel
    by_cases hlt : k < n
    · have hx := HC.out k hlt
      obtain ⟨r0, r1⟩ := rd_byte hb k
      have hs : Hid (acc l (k + 1) = Go.bits .or .u64 (IntKind.u64.wrap (acc l k * 256)) (rd l k)) := by show _ = _; rfl
      generalize hX : rd l (k : Int) = x at *
      generalize hA : acc l k = a at *
      clear hX hA
      go_wp2
      go_round
      case rel => exact ⟨k + 1, by omega, by go_num, by rw [hs.out]⟩
      case measure => simp [intOf]; omega
    · obtain rfl : k = n := by omega
      go_wp2
      go_ret2
      exact ⟨rfl, rfl⟩

/-! ### what the calls answer -/
def takeS (rest : List Int) (err n : Int) (ok : Bool) : Option (List Int) × List Int × Int :=
  if err ≠ 0 then (none, rest, err) else if ok = false then (none, rest, 2) else if (rest.length : Int) < n then (none, rest, 5) else (some (rest.take n.toNat), rest.drop n.toNat, 0)
def rightS (size : Int) : Bool := decide (1 ≤ size ∧ size ≤ 8)
def uintS (rest : List Int) (err size : Int) : Int × List Int × Int :=
  match takeS rest err size (rightS size) with
  | (none, r, e) => (0, r, e)
  | (some l, r, e) => (acc l size.toNat, r, e)
/-- The signed value: shifted up to the top and back. -/
def upDown (x : Int) (s : Nat) : Int := wrap64 (IntKind.u64.wrap (x * 2 ^ (64 - 8 * s))) / 2 ^ (64 - 8 * s)
def intS (rest : List Int) (err size : Int) : Int × List Int × Int :=
  match takeS rest err size (rightS size) with
  | (none, r, e) => (0, r, e)
  | (some l, r, e) => (upDown (acc l size.toNat) size.toNat, r, e)
def bytesS (rest : List Int) (err n : Int) : List Int × List Int × Int :=
  match takeS rest err n (decide (0 ≤ n)) with
  | (none, r, e) => ([], r, e)
  | (some l, r, e) => (l, r, e)
def skipS (rest : List Int) (err n : Int) : List Int × Int := (takeS rest err n (decide (0 ≤ n))).2

section
variable {w : World} {g b : Nat} {all rest : List Int} {err : Int} {p : Option Addr}
/-- A reader behind a call that turned nothing but it. -/
def Went (w : World) (g b : Nat) (all : List Int) (s : List Int × Int) (w' : World) : Prop := (∃ p', At w' g b all s.1 s.2 p') ∧ Upd w w' g
theorem Went.same (h : At w g b all rest err p) : Went w g b all (rest, err) w := ⟨⟨p, h⟩, Upd.refl _ _⟩
theorem Went.noted (h : At w g b all rest err p) (e : Int) : Went w g b all (rest, e) (w.setCell ⟨g, 1, none⟩ (.int .i64 e)) := ⟨⟨p, h.note e⟩, Upd.set _ _ _ _⟩

/-- One contract of take, for whatever state. -/
theorem take_any (h : At w g b all rest err p) (n : Int) (ok : Bool) (hn : ok = true → 0 ≤ n) :
    (∃ l r e', takeS rest err n ok = (some l, r, e') ∧ Calls Try.prog 64 #[.pointer (some ⟨g, 0, none⟩), .int .i64 n, .bool ok] w fun e w' => e = .returned (.tuple #[.slice p n.toNat rest.length, .bool true]) ∧ Went w g b all (r, e') w' ∧ Kd.C (Kd.int .u8) w' p n.toNat l) ∨
    (∃ r e', takeS rest err n ok = (none, r, e') ∧ Calls Try.prog 64 #[.pointer (some ⟨g, 0, none⟩), .int .i64 n, .bool ok] w fun e w' => e = .returned (.tuple #[.slice none 0 0, .bool false]) ∧ Went w g b all (r, e') w') := by
  unfold takeS
  by_cases he : err ≠ 0
  · rw [if_pos he]
    refine .inr ⟨_, _, rfl, (take_stopped h he n ok).mono ?_⟩
    rintro e w' ⟨rfl, rfl⟩
    exact ⟨rfl, Went.same h⟩
  · rw [if_neg he]
    obtain rfl : err = 0 := Decidable.of_not_not he
    cases ok with
    | false =>
      rw [if_pos rfl]
      refine .inr ⟨_, _, rfl, (take_wrong h n).mono ?_⟩
      rintro e w' ⟨rfl, rfl⟩
      exact ⟨rfl, Went.noted h 2⟩
    | true =>
      rw [if_neg (by simp)]
      by_cases hs : (rest.length : Int) < n
      · rw [if_pos hs]
        refine .inr ⟨_, _, rfl, (take_short h n hs).mono ?_⟩
        rintro e w' ⟨rfl, rfl⟩
        exact ⟨rfl, Went.noted h 5⟩
      · rw [if_neg hs]
        obtain ⟨m, rfl⟩ := Int.eq_ofNat_of_zero_le (hn rfl)
        rw [Int.toNat_natCast]
        refine .inl ⟨_, _, _, rfl, (take_some h m (by omega)).mono ?_⟩
        rintro e w' ⟨rfl, p', ha, hu⟩
        refine ⟨rfl, ⟨⟨p', ha⟩, hu⟩, ?_⟩
        exact reads_of ha.byt h m (by omega)

/-! ### Uint -/
theorem bytesOk_take {l : List Int} (h : bytesOk l) (n : Nat) : bytesOk (l.take n) := fun x hx => h x (List.mem_of_mem_take hx)
theorem bytesOk_drop {l : List Int} (h : bytesOk l) (n : Nat) : bytesOk (l.drop n) := fun x hx => h x (List.mem_of_mem_drop hx)
theorem At.bytes (h : At w g b all rest err p) (hb : bytesOk all) : bytesOk rest := by rw [h.suf]; exact bytesOk_drop hb _
theorem takeS_some {rest : List Int} {err n : Int} {ok : Bool} {l r : List Int} {e : Int} (h : takeS rest err n ok = (some l, r, e)) : l = rest.take n.toNat ∧ n ≤ rest.length := by
  unfold takeS at h
  split at h
  · cases h
  · split at h
    · cases h
    · split at h
      · cases h
      · cases h; exact ⟨rfl, by omega⟩
set_option maxHeartbeats 1000000 in
theorem uint_wrong (h : At w g b all rest err p) (size : Int) (hr : rightS size = false) (hd : decide (1 ≤ size) = false ∨ (decide (1 ≤ size) = true ∧ decide (size ≤ 8) = false)) :
    Calls Try.prog 40 #[.pointer (some ⟨g, 0, none⟩), .int .i64 size] w fun e w' => e = .returned (.int .u64 (uintS rest err size).1) ∧ Went w g b all (uintS rest err size).2 w' := by
  have H := Lib.hid h
  clear h
  rcases take_any H.out size false (fun h => by cases h) with ⟨l, r, e', he, hc⟩ | ⟨r, e', he, hc⟩
  · have : False := by
      unfold takeS at he
      split at he
      · cases he
      · cases he
    exact this.elim
  · have HT := Lib.hid hc
    have HS : Hid (uintS rest err size = (0, r, e')) := by
      show _ = _
      unfold uintS
      rw [hr, he]
    clear hc he
    rcases hd with d1 | ⟨d1, d2⟩
    all_goals
      go_enter Try.func40, Try.ntmps40
      go_wp2_with (first
        | ((with_reducible refine gate_callee (f := 64) rfl ?_); refine goesL_ _ rfl rfl Try.func64 (by kernel_rfl) rfl #[.pointer (some ⟨g, 0, none⟩), .int .i64 size, .bool false] rfl (by (try simp only [List.map_toArray, List.map_cons, List.map_nil]); first | done | rfl) ?_; refine HT.out.mono ?_; rintro e w1 ⟨rfl, hw⟩; refine ⟨_, rfl, ?_⟩; have HW := Lib.hid hw; clear hw)
        | go_in)
      go_ret
      rw [HS.out]
      exact ⟨rfl, HW.out⟩
set_option maxHeartbeats 1000000 in
theorem uint_any (h : At w g b all rest err p) (hb : bytesOk all) (size : Int) :
    Calls Try.prog 40 #[.pointer (some ⟨g, 0, none⟩), .int .i64 size] w fun e w' => e = .returned (.int .u64 (uintS rest err size).1) ∧ Went w g b all (uintS rest err size).2 w' := by
  have H := Lib.hid h
  have hbr := h.bytes hb
  clear h
  by_cases h1 : 1 ≤ size
  · by_cases h2 : size ≤ 8
    · have hr : rightS size = true := decide_eq_true ⟨h1, h2⟩
      have d1 : decide (1 ≤ size) = true := decide_eq_true h1
      have d2 : decide (size ≤ 8) = true := decide_eq_true h2
      obtain ⟨n, rfl⟩ := Int.eq_ofNat_of_zero_le (show 0 ≤ size by omega)
      rcases take_any H.out n true (fun _ => by omega) with ⟨l, r, e', he, hc⟩ | ⟨r, e', he, hc⟩
      · simp only [Int.toNat_natCast] at hc
        have HT := Lib.hid hc
        obtain ⟨hl, hle⟩ := takeS_some he
        rw [Int.toNat_natCast] at hl
        subst hl
        have hlb : bytesOk (rest.take n) := bytesOk_take hbr _
        have HS : Hid (uintS rest err n = (acc (rest.take n) n, r, e')) := by
          show _ = _
          unfold uintS
          rw [hr, he]; rfl
        clear hc he
        go_enter Try.func40, Try.ntmps40
        go_wp2_with (first
          | ((with_reducible refine gate_callee (f := 64) rfl ?_); refine goesL_ _ rfl rfl Try.func64 (by kernel_rfl) rfl #[.pointer (some ⟨g, 0, none⟩), .int .i64 n, .bool true] rfl (by (try simp only [List.map_toArray, List.map_cons, List.map_nil]); first | done | rfl) ?_; refine HT.out.mono ?_; rintro e w1 ⟨rfl, hw, hk⟩; refine ⟨_, rfl, ?_⟩; have HW := Lib.hid hw; have HK := Lib.hid hk; clear hw hk)
          | ((with_reducible refine gate_callee (f := 44) rfl ?_); refine goesL_ _ rfl rfl Try.func44 (by kernel_rfl) rfl #[.slice p n rest.length, .int .i64 0, .int .i64 n] rfl (by (try simp only [List.map_toArray, List.map_cons, List.map_nil]); first | done | rfl) ?_; refine (get_all w1 p n rest.length (rest.take n) HK.out hlb (by omega) (by omega)).mono ?_; rintro e w2 ⟨rfl, rfl⟩; refine ⟨_, rfl, ?_⟩)
          | go_in)
        go_ret
        rw [HS.out]
        exact ⟨rfl, HW.out⟩
      · have HT := Lib.hid hc
        have HS : Hid (uintS rest err n = (0, r, e')) := by
          show _ = _
          unfold uintS
          rw [hr, he]
        clear hc he
        go_enter Try.func40, Try.ntmps40
        go_wp2_with (first
          | ((with_reducible refine gate_callee (f := 64) rfl ?_); refine goesL_ _ rfl rfl Try.func64 (by kernel_rfl) rfl #[.pointer (some ⟨g, 0, none⟩), .int .i64 n, .bool true] rfl (by (try simp only [List.map_toArray, List.map_cons, List.map_nil]); first | done | rfl) ?_; refine HT.out.mono ?_; rintro e w1 ⟨rfl, hw⟩; refine ⟨_, rfl, ?_⟩; have HW := Lib.hid hw; clear hw)
          | go_in)
        go_ret
        rw [HS.out]
        exact ⟨rfl, HW.out⟩
    · have hr : rightS size = false := decide_eq_false (fun h => h2 h.2)
      have d1 : decide (1 ≤ size) = true := decide_eq_true h1
      have d2 : decide (size ≤ 8) = false := decide_eq_false h2
      exact uint_wrong H.out size hr (.inr ⟨d1, d2⟩)
  · exact uint_wrong H.out size (decide_eq_false (fun h => h1 h.1)) (.inl (decide_eq_false h1))
set_option maxHeartbeats 1000000 in
theorem int_wrong (h : At w g b all rest err p) (size : Int) (hr : rightS size = false) (hd : decide (1 ≤ size) = false ∨ (decide (1 ≤ size) = true ∧ decide (size ≤ 8) = false)) :
    Calls Try.prog 41 #[.pointer (some ⟨g, 0, none⟩), .int .i64 size] w fun e w' => e = .returned (.int .i64 (intS rest err size).1) ∧ Went w g b all (intS rest err size).2 w' := by
  have H := Lib.hid h
  clear h
  rcases take_any H.out size false (fun h => by cases h) with ⟨l, r, e', he, hc⟩ | ⟨r, e', he, hc⟩
  · have : False := by
      unfold takeS at he
      split at he
      · cases he
      · cases he
    exact this.elim
  · have HT := Lib.hid hc
    have HS : Hid (intS rest err size = (0, r, e')) := by
      show _ = _
      unfold intS
      rw [hr, he]
    clear hc he
    rcases hd with d1 | ⟨d1, d2⟩
    all_goals
      go_enter Try.func41, Try.ntmps41
      go_wp2_with (first
        | ((with_reducible refine gate_callee (f := 64) rfl ?_); refine goesL_ _ rfl rfl Try.func64 (by kernel_rfl) rfl #[.pointer (some ⟨g, 0, none⟩), .int .i64 size, .bool false] rfl (by (try simp only [List.map_toArray, List.map_cons, List.map_nil]); first | done | rfl) ?_; refine HT.out.mono ?_; rintro e w1 ⟨rfl, hw⟩; refine ⟨_, rfl, ?_⟩; have HW := Lib.hid hw; clear hw)
        | go_in)
      go_ret
      rw [HS.out]
      exact ⟨rfl, HW.out⟩
set_option maxHeartbeats 1000000 in
theorem int_any (h : At w g b all rest err p) (hb : bytesOk all) (size : Int) :
    Calls Try.prog 41 #[.pointer (some ⟨g, 0, none⟩), .int .i64 size] w fun e w' => e = .returned (.int .i64 (intS rest err size).1) ∧ Went w g b all (intS rest err size).2 w' := by
  have H := Lib.hid h
  have hbr := h.bytes hb
  clear h
  by_cases h1 : 1 ≤ size
  · by_cases h2 : size ≤ 8
    · have hr : rightS size = true := decide_eq_true ⟨h1, h2⟩
      have d1 : decide (1 ≤ size) = true := decide_eq_true h1
      have d2 : decide (size ≤ 8) = true := decide_eq_true h2
      obtain ⟨n, rfl⟩ := Int.eq_ofNat_of_zero_le (show 0 ≤ size by omega)
      rcases take_any H.out n true (fun _ => by omega) with ⟨l, r, e', he, hc⟩ | ⟨r, e', he, hc⟩
      · simp only [Int.toNat_natCast] at hc
        have HT := Lib.hid hc
        obtain ⟨hl, hle⟩ := takeS_some he
        rw [Int.toNat_natCast] at hl
        subst hl
        have hlb : bytesOk (rest.take n) := bytesOk_take hbr _
        have HS : Hid (intS rest err n = (upDown (acc (rest.take n) n) n, r, e')) := by
          show _ = _
          unfold intS
          rw [hr, he]; rfl
        clear hc he
        go_enter Try.func41, Try.ntmps41
        go_wp2_with (first
          | ((with_reducible refine gate_callee (f := 64) rfl ?_); refine goesL_ _ rfl rfl Try.func64 (by kernel_rfl) rfl #[.pointer (some ⟨g, 0, none⟩), .int .i64 n, .bool true] rfl (by (try simp only [List.map_toArray, List.map_cons, List.map_nil]); first | done | rfl) ?_; refine HT.out.mono ?_; rintro e w1 ⟨rfl, hw, hk⟩; refine ⟨_, rfl, ?_⟩; have HW := Lib.hid hw; have HK := Lib.hid hk; clear hw hk)
          | ((with_reducible refine gate_callee (f := 44) rfl ?_); refine goesL_ _ rfl rfl Try.func44 (by kernel_rfl) rfl #[.slice p n rest.length, .int .i64 0, .int .i64 n] rfl (by (try simp only [List.map_toArray, List.map_cons, List.map_nil]); first | done | rfl) ?_; refine (get_all w1 p n rest.length (rest.take n) HK.out hlb (by omega) (by omega)).mono ?_; rintro e w2 ⟨rfl, rfl⟩; refine ⟨_, rfl, ?_⟩)
          | go_in)
        go_ret
        rw [HS.out]
        exact ⟨rfl, HW.out⟩
      · have HT := Lib.hid hc
        have HS : Hid (intS rest err n = (0, r, e')) := by
          show _ = _
          unfold intS
          rw [hr, he]
        clear hc he
        go_enter Try.func41, Try.ntmps41
        go_wp2_with (first
          | ((with_reducible refine gate_callee (f := 64) rfl ?_); refine goesL_ _ rfl rfl Try.func64 (by kernel_rfl) rfl #[.pointer (some ⟨g, 0, none⟩), .int .i64 n, .bool true] rfl (by (try simp only [List.map_toArray, List.map_cons, List.map_nil]); first | done | rfl) ?_; refine HT.out.mono ?_; rintro e w1 ⟨rfl, hw⟩; refine ⟨_, rfl, ?_⟩; have HW := Lib.hid hw; clear hw)
          | go_in)
        go_ret
        rw [HS.out]
        exact ⟨rfl, HW.out⟩
    · have hr : rightS size = false := decide_eq_false (fun h => h2 h.2)
      have d1 : decide (1 ≤ size) = true := decide_eq_true h1
      have d2 : decide (size ≤ 8) = false := decide_eq_false h2
      exact int_wrong H.out size hr (.inr ⟨d1, d2⟩)
  · exact int_wrong H.out size (decide_eq_false (fun h => h1 h.1)) (.inl (decide_eq_false h1))
end
end Go.Proofs.Ytjbjkjlfikfeeaa.Rd
/- wire.Append: the bytes of its argument and those of the number, or the error. -/
namespace Go.Proofs.Ytjbjkjlfikfeeaa.P
set_option linter.unusedVariables false
open Go.RowKit Go.Proofs.YtjbjkjlfikfeeaaW.PrintWords Go.Proofs.YtjbjkjlfikfeeaaW.PrintLast Go.Proofs.YtjbjkjlfikfeeaaW.PrintMore

theorem app_info : (Try.prog.info? 5).map (fun i => (i.zero, i.size, i.bytes)) = some (some (.int .u8 0), 1, 1) := by kernel_rfl

theorem app_bad (A0 : Option Addr) (c0 : Nat) (l0 : List Int) (a1 a2 : Int) (w : World) (h : ¬ (1 ≤ a2 ∧ a2 ≤ 8)) :
    Calls Try.prog 60 #[.slice A0 l0.length c0, .int .u64 a1, .int .i64 a2] w fun e w' => e = .returned (.tuple #[.slice none 0 0, .int .i64 2]) ∧ w' = w := by
  by_cases h1 : 1 ≤ a2
  · have h2 : ¬ a2 ≤ 8 := by omega
    have d1 : decide (1 ≤ a2) = true := decide_eq_true h1
    have d2 : decide (a2 ≤ 8) = false := decide_eq_false h2
    go_enter Try.func60, Try.ntmps60
    go_wp2
    go_ret2
    exact ⟨rfl, rfl⟩
  · have d1 : decide (1 ≤ a2) = false := decide_eq_false h1
    go_enter Try.func60, Try.ntmps60
    go_wp2
    go_ret2
    exact ⟨rfl, rfl⟩

/-- The bytes of n, the most significant one first; of the last ones, those from j on are still 0. -/
def digit (n : Int) (s i : Nat) : Int := n / 2 ^ (8 * (s - 1 - i)) % 256
def appAt (l : List Int) (n : Int) (s j : Nat) : List Int := l ++ (List.range s).map fun i => if i < j then digit n s i else 0
theorem appAt_length (l : List Int) (n : Int) (s j : Nat) : (appAt l n s j).length = l.length + s := by simp [appAt]
theorem appAt_set (l : List Int) (n : Int) (s j : Nat) (hj : j < s) : (appAt l n s j).set (l.length + j) (digit n s j) = appAt l n s (j + 1) := by
  apply List.ext_getElem?
  intro k
  unfold appAt
  rw [List.getElem?_set]
  rcases Nat.lt_or_ge k l.length with h | h
  · rw [if_neg (by omega), List.getElem?_append_left h, List.getElem?_append_left h]
  · rw [List.getElem?_append_right h, List.getElem?_append_right h]
    rcases Nat.lt_or_ge (k - l.length) s with h2 | h2
    · rw [List.getElem?_map, List.getElem?_map, List.getElem?_range h2]
      simp only [Option.map_some]
      by_cases hk : l.length + j = k
      · rw [if_pos hk, if_pos (by simp; omega)]
        subst hk
        rw [if_pos (by omega)]
        simp
      · rw [if_neg hk]
        congr 1
        by_cases h3 : k - l.length < j
        · rw [if_pos h3, if_pos (by omega)]
        · rw [if_neg h3, if_neg (by omega)]
    · rw [List.getElem?_eq_none (by simpa using h2), List.getElem?_eq_none (by simpa using h2)]
      by_cases hk : l.length + j = k
      · omega
      · rw [if_neg hk]
theorem made_one (z : Value) (n : Nat) : (madeCells #[z] n).toList = List.replicate n z := by
  apply List.eq_replicate_iff.2
  refine ⟨by rw [Array.length_toList, size_madeCells], fun b hb => ?_⟩
  simp only [madeCells, Array.toList_map, List.mem_map] at hb
  obtain ⟨i, _, rfl⟩ := hb
  have : i % #[z].size = 0 := by simp; omega
  rw [this]; rfl
theorem appAt_zero (l : List Int) (n : Int) (s : Nat) : splice (madeCells #[.int .u8 0] (l.length + s)).toList 0 (encs (Value.int .u8) l) = encs (Value.int .u8) (appAt l n s 0) := by
  have e : (List.range s).map (fun i => if i < 0 then digit n s i else 0) = List.replicate s 0 := by
    apply List.eq_replicate_iff.2
    refine ⟨by simp, fun b hb => ?_⟩
    obtain ⟨i, _, rfl⟩ := List.mem_map.1 hb
    simp
  unfold splice appAt
  rw [made_one, e]
  simp [encs]
theorem appAt_all (l : List Int) (n : Int) (s : Nat) : appAt l n s s = l ++ (List.range s).map (digit n s) := by
  unfold appAt
  congr 1
  apply List.map_congr_left
  intro i hi
  rw [if_pos (List.mem_range.1 hi)]

set_option maxHeartbeats 2000000 in
theorem app_main (A0 : Option Addr) (c0 : Nat) (l0 : List Int) (a1 : Int) (s : Nat) (w : World) (hr0 : Kd.C (Kd.int .u8) w A0 l0.length l0) (h1 : 1 ≤ s) (h2 : s ≤ 8) (h3 : s < 8 → a1 / 2 ^ (8 * s) = 0) (hn0 : 0 ≤ a1) (hl : l0.length ≤ 140737488355000) :
    Calls Try.prog 60 #[.slice A0 l0.length c0, .int .u64 a1, .int .i64 s] w fun e w' => ∃ v0_ : Value, e = .returned (.tuple #[v0_, .int .i64 0]) ∧ w'.ownsRow w.heap.size 5 1 v0_ (l0.length + s) (encs (Value.int .u8) (appAt l0 a1 s s)) ∧ Below w.heap.size w w' := by
  have d1 : decide (1 ≤ (s : Int)) = true := decide_eq_true (by omega)
  have d2 : decide ((s : Int) ≤ 8) = true := decide_eq_true (by omega)
  have b1 : (s : Int) ≤ 8 := by omega
  have b0 : 1 ≤ (s : Int) := by omega
  obtain ⟨i0, hi, hz0, hz1, hz2⟩ := info_parts app_info
  have hmk : ∀ W : World, (Instr.makeSlice 53 (.int .i64 ((l0.length : Int) + s)) (.int .i64 ((l0.length : Int) + s))).run Try.prog W = .ok (.slice (some ⟨W.heap.size, 0, none⟩) (l0.length + s) (l0.length + s)) (W.alloc (.cells (madeCells #[.int .u8 0] (l0.length + s)) 5)) := by
    intro W
    have := run_make (P := Try.prog) W 53 5 i0 (.int .u8 0) Try.underlying53 hi hz0 .i64 .i64 ((l0.length : Int) + s) ((l0.length : Int) + s) (by omega) (by omega) (by rw [hz2]; omega) (by omega)
    rw [this, hz1, show ((l0.length : Int) + s).toNat = l0.length + s by omega, Nat.mul_one]; rfl
  have hsz : (Try.prog.info? 5).map (·.size) = some 1 := by rw [hi]; simp [hz1]
  have H0 : Hid ((w.alloc (.cells (madeCells #[.int .u8 0] (l0.length + s)) 5)).heap[w.heap.size]? = some (.cells (madeCells #[.int .u8 0] (l0.length + s)).toList.toArray 5 (0, 0))) := by
    show _ = _
    rw [Array.toArray_toList]
    exact heap_alloc_new w _
  have HR : Hid (0 < l0.length → ∃ ad, A0 = some ad ∧ ∀ j v, (encs (Value.int .u8) l0)[j]? = some v → (w.alloc (.cells (madeCells #[.int .u8 0] (l0.length + s)) 5)).cell? (ad.add j) = some v) := by
    show _
    intro hp
    have hC := Kd.C_below hr0 ((Below.refl _ _).alloc (Nat.le_refl _) (.cells (madeCells #[.int .u8 0] (l0.length + s)) 5))
    obtain ⟨_, _, hx⟩ := hC
    obtain ⟨ad, ha, hh⟩ := hx hp
    refine ⟨ad, ha, fun j v hj => ?_⟩
    unfold encs at hj
    rw [List.getElem?_map] at hj
    obtain ⟨x, hx1, hx2⟩ := Option.map_eq_some_iff.1 hj
    obtain ⟨c, _, hK, hcell⟩ := hh j x hx1
    have hK : c = [Value.int .u8 x] := hK
    have := hcell 0 (Value.int .u8 x) (by rw [hK]; rfl)
    rw [← hx2]
    simpa [Kd.int, Kd.scalar] using this
  have HC1 : Hid ((encs (Value.int .u8) l0).length = Nat.min l0.length (l0.length + s)) := by
    show _ = _
    rw [encs, List.length_map]; exact (Nat.min_eq_left (by omega)).symm
  have HC2 : Hid (0 < (encs (Value.int .u8) l0).length → (some (⟨w.heap.size, 0, none⟩ : Addr)) = some ⟨w.heap.size, 0, none⟩ ∧ ∃ ad, A0 = some ad ∧ ∀ j v, (encs (Value.int .u8) l0)[j]? = some v → (w.alloc (.cells (madeCells #[.int .u8 0] (l0.length + s)) 5)).cell? (ad.add j) = some v) := by
    show _
    intro hp
    exact ⟨rfl, HR.out (by rwa [encs, List.length_map] at hp)⟩
  have HC3 : Hid (0 + (encs (Value.int .u8) l0).length ≤ (madeCells #[.int .u8 0] (l0.length + s)).toList.length) := by
    show _ ≤ _
    have e1 : (encs (Value.int .u8) l0).length = l0.length := by simp [encs]
    have e2 : (madeCells #[.int .u8 0] (l0.length + s)).toList.length = l0.length + s := by rw [Array.length_toList, size_madeCells]
    omega
  have HC4 : Hid (∀ v ∈ encs (Value.int .u8) l0, v.oneCell' = true) := by
    show _
    intro v hv
    obtain ⟨x, _, rfl⟩ := List.mem_map.1 hv
    rfl
  have HC5 : Hid (Below w.heap.size w (w.alloc (.cells (madeCells #[.int .u8 0] (l0.length + s)) 5))) := (Below.refl _ _).alloc (Nat.le_refl _) _
  clear hr0
  by_cases h8 : s < 8
  all_goals
    first
    | (have d3 : decide ((s : Int) < 8) = true := decide_eq_true (by omega)
       have d4 : (a1 / 2 ^ (8 * s) != 0) = false := by simpa using h3 h8)
    | (have d3 : decide ((s : Int) < 8) = false := decide_eq_false (by omega))
    clear h3
    go_enter Try.func60, Try.ntmps60
    go_wp2_with (first | ((with_reducible refine gate_dst (N := 29) rfl ?_); go_loud (refine wpList_copy_splice rfl (.tmp 27) (.tmp 28) 53 53 rfl 5 Try.underlying53 hsz _ _ _ _ _ _ rfl rfl w.heap.size 0 _ 5 H0.out (encs (Value.int .u8) l0) HC1.out HC2.out HC3.out HC4.out w.heap.size w HC5.out (Nat.le_refl _) ?_); intro w1 hg1 hb1) | go_in)
    have hg2 : Hid (w1.heap[w.heap.size]? = some (.cells (encs (Value.int .u8) (appAt l0 a1 s 0)).toArray 5 (0, 0))) := by
      show _ = _
      rw [← appAt_zero]; exact hg1
    clear hg1
    clear HR H0 HC1 HC2 HC3 HC4 HC5
    go_loopw [9, 31] (fun _ v31 wr => ∃ k : Nat, k ≤ s ∧ v31 = .int .i64 k ∧ Hid (wr.heap[w.heap.size]? = some (.cells (encs (Value.int .u8) (appAt l0 a1 s k)).toArray 5 (0, 0))) ∧ Below w.heap.size w wr) (fun _ v31 _ => s - (intOf v31).toNat)
    case atStart => exact ⟨0, Nat.zero_le _, rfl, hg2, hb1⟩
    case round =>
      obtain ⟨k, hk, rfl, HG, HB⟩ := hrel
      clear hg2 hb1 hmk
      by_cases hlt : k < s
      · have hx := appAt_length l0 a1 s k
        have hcell : wr.cell? ⟨w.heap.size, l0.length + k, none⟩ = some (.int .u8 (rd (appAt l0 a1 s k) (l0.length + k : Nat))) := by
          rw [Joins.cell_of_block HG.out, List.getElem?_toArray, encs, List.getElem?_map]
          have hl2 : l0.length + k < (appAt l0 a1 s k).length := by omega
          rw [List.getElem?_eq_getElem hl2]
          unfold rd
          rw [Int.toNat_natCast, List.getD_eq_getElem?_getD, List.getElem?_eq_getElem hl2]
          rfl
        have hfree : wr.frozen? ⟨w.heap.size, l0.length + k, none⟩ = false := Joins.unfrozen_of_block HG.out _
        have HX := Lib.hid hx
        clear hx
        have HS : Hid ((wr.setCell ⟨w.heap.size, l0.length + k, none⟩ (.int .u8 (a1 / 2 ^ (8 * (s - 1 - k)) % 256))).heap[w.heap.size]? = some (.cells (encs (Value.int .u8) (appAt l0 a1 s (k + 1))).toArray 5 (0, 0))) := by
          show _ = _
          rw [Joins.block_setCell HG.out, ← appAt_set l0 a1 s k hlt]
          simp only [encs, List.setIfInBounds_toArray, List.map_set]
          rfl
        have HB2 : Hid (Below w.heap.size w (wr.setCell ⟨w.heap.size, l0.length + k, none⟩ (.int .u8 (a1 / 2 ^ (8 * (s - 1 - k)) % 256)))) := HB.setCell (Nat.le_refl _) _
        clear HG HB
        go_wp2
        go_roundw
        case rel => exact ⟨k + 1, by omega, by go_num, HS, HB2.out⟩
        case measure => simp [intOf]; omega
      · obtain rfl : k = s := by omega
        go_wp2
        go_ret2
        refine ⟨_, rfl, ⟨by simp [encs, appAt_length], .inr ⟨w.heap.size, l0.length + k, _, rfl, Nat.le_refl _, HG.out, Nat.le_refl _, by unfold maxLen; omega, by simp [encs, appAt_length], ?_⟩⟩, HB⟩
        rw [List.take_of_length_le (by simp [encs, appAt_length])]

def wire_Append.f (l0 : List Int) (a1 : Int) (a2 : Int) : Option (List Int × Int) :=
  if 0 ≤ a1 then
    if 1 ≤ a2 ∧ a2 ≤ 8 then
      if a2 < 8 ∧ a1 / 2 ^ (8 * a2.toNat) ≠ 0 then some ([], 3)
      else if l0.length ≤ 140737488355000 then some (l0 ++ (List.range a2.toNat).map (digit a1 a2.toNat), 0) else none
    else some ([], 2)
  else none
theorem app_range (A0 : Option Addr) (c0 : Nat) (l0 : List Int) (a1 : Int) (s : Nat) (w : World) (h1 : 1 ≤ s) (h2 : s < 8) (h3 : a1 / 2 ^ (8 * s) ≠ 0) (hn0 : 0 ≤ a1) :
    Calls Try.prog 60 #[.slice A0 l0.length c0, .int .u64 a1, .int .i64 s] w fun e w' => e = .returned (.tuple #[.slice none 0 0, .int .i64 3]) ∧ w' = w := by
  have d1 : decide (1 ≤ (s : Int)) = true := decide_eq_true (by omega)
  have d2 : decide ((s : Int) ≤ 8) = true := decide_eq_true (by omega)
  have d3 : decide ((s : Int) < 8) = true := decide_eq_true (by omega)
  have b1 : (s : Int) ≤ 8 := by omega
  have b0 : 1 ≤ (s : Int) := by omega
  have d4 : (a1 / 2 ^ (8 * s) != 0) = true := by simpa using h3
  clear h3
  go_enter Try.func60, Try.ntmps60
  go_wp2
  go_ret2
  exact ⟨rfl, rfl⟩
theorem wire_Append.calls (A0 : Option Addr) (c0 : Nat) (l0 : List Int) (a1 : Int) (a2 : Int) (r1 : List Int) (r2 : Int) (w : World) (hr0 : Kd.C (Kd.int .u8) w A0 l0.length l0) (hc0 : l0.length ≤ c0) (h : wire_Append.f l0 a1 a2 = some (r1, r2)) :
    Calls Try.prog 60 #[.slice A0 l0.length c0, .int .u64 a1, .int .i64 a2] w fun e w' => ∃ v0_ : Value, e = .returned (.tuple #[v0_, .int .i64 r2]) ∧ Kd.R (Kd.int .u8) 5 w' w.heap.size (fun _ => True) v0_ r1 ∧ Below w.heap.size w w' := by
  unfold wire_Append.f at h
  by_cases hn : 0 ≤ a1
  · rw [if_pos hn] at h
    by_cases hs : 1 ≤ a2 ∧ a2 ≤ 8
    · rw [if_pos hs] at h
      obtain ⟨s, rfl⟩ := Int.eq_ofNat_of_zero_le (show 0 ≤ a2 by omega)
      rw [Int.toNat_natCast] at h
      by_cases hr : (s : Int) < 8 ∧ a1 / 2 ^ (8 * s) ≠ 0
      · rw [if_pos hr] at h
        simp only [Option.some.injEq, Prod.mk.injEq] at h
        obtain ⟨rfl, rfl⟩ := h
        refine (app_range A0 c0 l0 a1 s w (by omega) (by omega) hr.2 hn).mono ?_
        rintro e w' ⟨rfl, rfl⟩
        exact ⟨_, rfl, Kd.R_nil _ _ _ _ _, Below.refl _ _⟩
      · rw [if_neg hr] at h
        by_cases hl : l0.length ≤ 140737488355000
        · rw [if_pos hl] at h
          simp only [Option.some.injEq, Prod.mk.injEq] at h
          obtain ⟨rfl, rfl⟩ := h
          refine (app_main A0 c0 l0 a1 s w hr0 (by omega) (by omega) (fun h8 => Decidable.byContradiction fun hz => hr ⟨by omega, hz⟩) hn hl).mono ?_
          rintro e w' ⟨v, rfl, ho, hb⟩
          refine ⟨v, rfl, Kd.R_of_own ?_ (fun _ _ => trivial), hb⟩
          rw [← appAt_all, appAt_length]; exact ho
        · rw [if_neg hl] at h; cases h
    · rw [if_neg hs] at h
      simp only [Option.some.injEq, Prod.mk.injEq] at h
      obtain ⟨rfl, rfl⟩ := h
      refine (app_bad A0 c0 l0 a1 a2 w hs).mono ?_
      rintro e w' ⟨rfl, rfl⟩
      exact ⟨_, rfl, Kd.R_nil _ _ _ _ _, Below.refl _ _⟩
  · rw [if_neg hn] at h; cases h
end Go.Proofs.Ytjbjkjlfikfeeaa.P
