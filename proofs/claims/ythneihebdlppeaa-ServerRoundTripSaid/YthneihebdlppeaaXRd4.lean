/- A reader and a struct's cell beside it, as decoders hold them. -/
import Derived.Test.YthneihebdlppeaaXRd3
namespace Go.Proofs.Ythneihebdlppeaa.Rd
set_option linter.unusedVariables false
open Go.RowKit Go.Proofs.YthneihebdlppeaaW.PrintWords Go.Proofs.YthneihebdlppeaaW.PrintLast Go.Proofs.YthneihebdlppeaaW.PrintMore

instance (l : List Int) : Decidable (bytesOk l) := by unfold bytesOk; infer_instance
/-- A reader at g over the bytes of block b that stands at k without an error, in what has turned above w0 alone. -/
structure Rdr (w0 w : World) (g b : Nat) (all : List Int) (k : Nat) : Prop where
  at' : ∃ p, At w g b all (all.drop k) 0 p
  g0 : w0.heap.size ≤ g
  b0 : w0.heap.size ≤ b
  low : Below w0.heap.size w0 w
  ok : bytesOk all
/-- A block of cells. -/
def Blk (w : World) (q : Nat) (cs : List Value) (t : TypeId) : Prop := w.heap[q]? = some (.cells cs.toArray t (0, 0))
section
variable {w0 w : World} {g b k : Nat} {all : List Int}
theorem Rdr.new {A : Option Addr} {c : Nat} {l : List Int} (hr : Kd.C (Kd.int .u8) w A l.length l) (hc : l.length ≤ c) (hb : l.length ≤ 140737488355000) (hk : bytesOk l) (hw : Below w0.heap.size w0 w) :
    Calls Try.prog 44 #[.slice A l.length c] w fun e w' => ∃ g, e = .returned (.pointer (some ⟨g, 0, none⟩)) ∧ (∃ b, Rdr w0 w' g b l 0 ∧ w.heap.size ≤ b) ∧ Below w.heap.size w w' ∧ w.heap.size ≤ g := by
  refine (new_reader hr hc hb).mono ?_
  rintro e w' ⟨g, b, p, rfl, hg, hb', ha, hl⟩
  have := hw.size
  refine ⟨g, rfl, ⟨b, ⟨⟨p, ha⟩, by omega, by omega, ?_, hk⟩, hb'⟩, hl, hg⟩
  exact below_step hw hl
theorem Rdr.went (h : Rdr w0 w g b all k) {s : List Int × Int} {w' : World} (hw : Went w g b all s w') (k' : Nat) (hs : s = (all.drop k', 0)) : Rdr w0 w' g b all k' := by
  subst hs
  obtain ⟨⟨p', ha⟩, hu⟩ := hw
  exact ⟨⟨p', ha⟩, h.g0, h.b0, hu.below h.low h.g0 h.low.size, h.ok⟩
theorem takeS_ok (l : List Int) (k n : Nat) (h : k + n ≤ l.length) : takeS (l.drop k) 0 n true = (some ((l.drop k).take n), l.drop (k + n), 0) := by
  unfold takeS
  rw [if_neg (by omega), if_neg (by simp), if_neg (by rw [List.length_drop]; omega), Int.toNat_natCast, List.drop_drop]
theorem Rdr.uint (h : Rdr w0 w g b all k) (n : Nat) (h1 : 1 ≤ n) (h8 : n ≤ 8) (hl : k + n ≤ all.length) :
    Calls Try.prog 47 #[.pointer (some ⟨g, 0, none⟩), .int .i64 n] w fun e w' => e = .returned (.int .u64 (acc ((all.drop k).take n) n)) ∧ Rdr w0 w' g b all (k + n) ∧ Upd w w' g := by
  obtain ⟨p, ha⟩ := h.at'
  refine (uint_any ha h.ok n).mono ?_
  have e1 : uintS (all.drop k) 0 n = (acc ((all.drop k).take n) n, all.drop (k + n), 0) := by
    unfold uintS
    rw [show rightS n = true from decide_eq_true (by omega), takeS_ok _ _ _ hl, Int.toNat_natCast]
  rw [e1]
  rintro e w' ⟨rfl, hw⟩
  exact ⟨rfl, h.went hw _ rfl, hw.2⟩
theorem Rdr.int (h : Rdr w0 w g b all k) (n : Nat) (h1 : 1 ≤ n) (h8 : n ≤ 8) (hl : k + n ≤ all.length) :
    Calls Try.prog 45 #[.pointer (some ⟨g, 0, none⟩), .int .i64 n] w fun e w' => e = .returned (.int .i64 (upDown (acc ((all.drop k).take n) n) n)) ∧ Rdr w0 w' g b all (k + n) ∧ Upd w w' g := by
  obtain ⟨p, ha⟩ := h.at'
  refine (int_any ha h.ok n).mono ?_
  have e1 : intS (all.drop k) 0 n = (upDown (acc ((all.drop k).take n) n) n, all.drop (k + n), 0) := by
    unfold intS
    rw [show rightS n = true from decide_eq_true (by omega), takeS_ok _ _ _ hl, Int.toNat_natCast]
  rw [e1]
  rintro e w' ⟨rfl, hw⟩
  exact ⟨rfl, h.went hw _ rfl, hw.2⟩
theorem Rdr.left (h : Rdr w0 w g b all k) :
    Calls Try.prog 49 #[.pointer (some ⟨g, 0, none⟩)] w fun e w' => e = .returned (.int .i64 ((all.length - k : Nat) : Int)) ∧ w' = w := by
  obtain ⟨p, ha⟩ := h.at'
  have := left_any ha
  rw [List.length_drop] at this
  exact this
theorem Rdr.bytes (h : Rdr w0 w g b all k) (n : Nat) (hl : k + n ≤ all.length) :
    Calls Try.prog 48 #[.pointer (some ⟨g, 0, none⟩), .int .i64 n] w fun e w' => ∃ v, e = .returned v ∧ w'.ownsRow w.heap.size 5 1 v ((all.drop k).take n).length (encs (Value.int .u8) ((all.drop k).take n)) ∧ Rdr w0 w' g b all (k + n) ∧ Upd w w' g := by
  obtain ⟨p, ha⟩ := h.at'
  refine (bytes_any ha n).mono ?_
  have e1 : bytesS (all.drop k) 0 n = ((all.drop k).take n, all.drop (k + n), 0) := by
    unfold bytesS
    rw [show decide (0 ≤ (n : Int)) = true from decide_eq_true (by omega), takeS_ok _ _ _ hl]
  rw [e1]
  rintro e w' ⟨v, rfl, ho, hw⟩
  exact ⟨v, rfl, ho, h.went hw _ rfl, hw.2⟩
theorem own_far {w : World} {base n : Nat} {e : TypeId} {size : Nat} {v : Value} {xs : List Value} (h : w.ownsRow base e size v n xs) (q j : Nat) (u : Value) (hq : q < base) : (w.setCell ⟨q, j, none⟩ u).ownsRow base e size v n xs := by
  obtain ⟨h1, h2 | ⟨g, cap, cur, hv, hg, hh, h3⟩⟩ := h
  · exact ⟨h1, .inl h2⟩
  · exact ⟨h1, .inr ⟨g, cap, cur, hv, hg, (Below.heap_setCell w ⟨q, j, none⟩ u g (show g ≠ q by omega)).trans hh, h3⟩⟩
/-- A store beside the reader. -/
theorem Rdr.store (h : Rdr w0 w g b all k) (q j : Nat) (v : Value) (hq : w0.heap.size ≤ q) (h1 : q ≠ g) (h2 : q ≠ b) : Rdr w0 (w.setCell ⟨q, j, none⟩ v) g b all k := by
  obtain ⟨p, ha⟩ := h.at'
  exact ⟨⟨p, ha.keep (Upd.set w q j v) (Ne.symm h1) (Ne.symm h2)⟩, h.g0, h.b0, h.low.setCell hq v, h.ok⟩
/-- A new block beside the reader. -/
theorem Rdr.alloc (h : Rdr w0 w g b all k) (o : Obj) : Rdr w0 (w.alloc o) g b all k := by
  obtain ⟨p, ha⟩ := h.at'
  have hl := (Below.refl w.heap.size w).alloc (Nat.le_refl _) o
  exact ⟨⟨p, ha.below hl (lt_of_blk ha.blk) (lt_of_blk ha.byt)⟩, h.g0, h.b0, h.low.alloc h.low.size o, h.ok⟩
theorem Rdr.g_lt (h : Rdr w0 w g b all k) : g < w.heap.size := by obtain ⟨p, ha⟩ := h.at'; exact lt_of_blk ha.blk
theorem Rdr.b_lt (h : Rdr w0 w g b all k) : b < w.heap.size := by obtain ⟨p, ha⟩ := h.at'; exact lt_of_blk ha.byt
theorem Blk.upd {q : Nat} {cs : List Value} {t : TypeId} {w' : World} (h : Blk w q cs t) (hu : Upd w w' g) (hq : q ≠ g) : Blk w' q cs t := (hu.block q (lt_of_blk h) hq).trans h
theorem Blk.store {q : Nat} {cs : List Value} {t : TypeId} (h : Blk w q cs t) (j : Nat) (v : Value) : Blk (w.setCell ⟨q, j, none⟩ v) q (cs.set j v) t := by
  unfold Blk at h ⊢
  rw [Joins.block_setCell h, List.setIfInBounds_toArray]
theorem Blk.cell {q : Nat} {cs : List Value} {t : TypeId} (h : Blk w q cs t) (j : Nat) : w.cell? ⟨q, j, none⟩ = cs[j]? := by
  rw [Joins.cell_of_block h, List.getElem?_toArray]
theorem Blk.free {q : Nat} {cs : List Value} {t : TypeId} (h : Blk w q cs t) (j : Nat) : w.frozen? ⟨q, j, none⟩ = false := Joins.unfrozen_of_block h j
theorem Blk.new (o : List Value) (t : TypeId) : Blk (w.alloc (.cells o.toArray t)) w.heap.size o t := heap_alloc_new w _
theorem Blk.far {q p : Nat} {cs : List Value} {t : TypeId} (h : Blk w q cs t) (hp : q ≠ p) (j : Nat) (v : Value) : Blk (w.setCell ⟨p, j, none⟩ v) q cs t :=
  (Below.heap_setCell w ⟨p, j, none⟩ v q hp).trans h
theorem Blk.below {q : Nat} {cs : List Value} {t : TypeId} {w' : World} (h : Blk w q cs t) (hb : Below w.heap.size w w') : Blk w' q cs t := (hb.block q (lt_of_blk h)).trans h
theorem Rdr.below' {w' : World} (h : Rdr w0 w g b all k) (hb : Below w.heap.size w w') : Rdr w0 w' g b all k := by
  obtain ⟨p, ha⟩ := h.at'
  exact ⟨⟨p, ha.below hb (lt_of_blk ha.blk) (lt_of_blk ha.byt)⟩, h.g0, h.b0, below_step h.low hb, h.ok⟩
/-- A reader beside two blocks of cells: one that is written, one that is not. -/
structure Tri (w0 w : World) (g b : Nat) (all : List Int) (k q : Nat) (cs : List Value) (t : TypeId) (r : Nat) (cs2 : List Value) (t2 : TypeId) : Prop where
  rd : Rdr w0 w g b all k
  bq : Blk w q cs t
  br : Blk w r cs2 t2
  qg : q ≠ g
  qb : q ≠ b
  rg : r ≠ g
  rq : r ≠ q
  q0 : w0.heap.size ≤ q
variable {q r : Nat} {cs cs2 : List Value} {t t2 : TypeId}
theorem Tri.store (h : Tri w0 w g b all k q cs t r cs2 t2) (j : Nat) (v : Value) : Tri w0 (w.setCell ⟨q, j, none⟩ v) g b all k q (cs.set j v) t r cs2 t2 :=
  ⟨h.rd.store q j v h.q0 h.qg h.qb, h.bq.store j v, h.br.far h.rq j v, h.qg, h.qb, h.rg, h.rq, h.q0⟩
theorem Tri.upd (h : Tri w0 w g b all k q cs t r cs2 t2) {w' : World} {k' : Nat} (hd : Rdr w0 w' g b all k') (hu : Upd w w' g) : Tri w0 w' g b all k' q cs t r cs2 t2 :=
  ⟨hd, h.bq.upd hu h.qg, h.br.upd hu h.rg, h.qg, h.qb, h.rg, h.rq, h.q0⟩
theorem Tri.uint (h : Tri w0 w g b all k q cs t r cs2 t2) (n : Nat) (h1 : 1 ≤ n) (h8 : n ≤ 8) (hl : k + n ≤ all.length) :
    Calls Try.prog 47 #[.pointer (some ⟨g, 0, none⟩), .int .i64 n] w fun e w' => e = .returned (.int .u64 (acc ((all.drop k).take n) n)) ∧ Tri w0 w' g b all (k + n) q cs t r cs2 t2 :=
  (h.rd.uint n h1 h8 hl).mono fun _ _ ⟨e, a, u⟩ => ⟨e, h.upd a u⟩
theorem Tri.int (h : Tri w0 w g b all k q cs t r cs2 t2) (n : Nat) (h1 : 1 ≤ n) (h8 : n ≤ 8) (hl : k + n ≤ all.length) :
    Calls Try.prog 45 #[.pointer (some ⟨g, 0, none⟩), .int .i64 n] w fun e w' => e = .returned (.int .i64 (upDown (acc ((all.drop k).take n) n) n)) ∧ Tri w0 w' g b all (k + n) q cs t r cs2 t2 :=
  (h.rd.int n h1 h8 hl).mono fun _ _ ⟨e, a, u⟩ => ⟨e, h.upd a u⟩
theorem Tri.left (h : Tri w0 w g b all k q cs t r cs2 t2) :
    Calls Try.prog 49 #[.pointer (some ⟨g, 0, none⟩)] w fun e w' => e = .returned (.int .i64 ((all.length - k : Nat) : Int)) ∧ w' = w := h.rd.left
theorem Tri.bytes (h : Tri w0 w g b all k q cs t r cs2 t2) (n : Nat) (hl : k + n ≤ all.length) :
    Calls Try.prog 48 #[.pointer (some ⟨g, 0, none⟩), .int .i64 n] w fun e w' => ∃ v, e = .returned v ∧ w'.ownsRow w.heap.size 5 1 v ((all.drop k).take n).length (encs (Value.int .u8) ((all.drop k).take n)) ∧ Tri w0 w' g b all (k + n) q cs t r cs2 t2 :=
  (h.rd.bytes n hl).mono fun _ _ ⟨v, e, o, a, u⟩ => ⟨v, e, o, h.upd a u⟩
theorem Tri.drew (h : Tri w0 w g b all k q cs t r cs2 t2) : Tri w0 w.drew g b all k q cs t r cs2 t2 := by
  obtain ⟨p, ha⟩ := h.rd.at'
  exact ⟨⟨⟨p, ⟨ha.blk, ha.byt, ha.ne, ha.le, ha.suf, ha.ptr, ha.big⟩⟩, h.rd.g0, h.rd.b0, below_drew1 h.rd.low, h.rd.ok⟩, h.bq, h.br, h.qg, h.qb, h.rg, h.rq, h.q0⟩
theorem results_blk {P : Program} {fn : Func} {p u v : Tmp} {ty : TypeId} (h : fn.results = #[.cell p ty, .tmp u, .tmp v]) (tmps : Array Value) (w : World) (g : Nat) (t : TypeId) (cs cs' : List Value) (d : TypeDesc) (hg : Blk w g cs t) (hcs : cs = cs')
    (hp : tmps.getD p undef = .pointer (some ⟨g, 0, none⟩))
    (hu : P.underlying ty = some d) (hd : (match d with | .struct _ | .array _ _ => true | _ => false) = true) (hi : (P.info? ty).map (·.size) = some cs'.length) :
    (results fn tmps).run P w = .ok (.tuple #[.agg cs'.toArray, tmps.getD u undef, tmps.getD v undef]) w := by
  subst hcs
  exact results_ctt h tmps w g t cs.toArray (0, 0) d hp hg hu hd (by rw [hi]; simp)
/-- A name for the world behind stores. -/
theorem Tri.here {P : Program} {C : Code} {Q : Exit → Act → World → Prop} {a : Act} (h : Tri w0 w g b all k q cs t r cs2 t2) (H : ∀ w', Tri w0 w' g b all k q cs t r cs2 t2 → Code.wp P C Q a w') : Code.wp P C Q a w := H w h
end
end Go.Proofs.Ythneihebdlppeaa.Rd
