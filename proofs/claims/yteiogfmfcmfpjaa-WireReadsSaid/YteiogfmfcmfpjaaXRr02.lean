/- The reference's reader: what each of its calls does to it, and to nothing else. -/
import Derived.Test.YteiogfmfcmfpjaaPureRr02
import Derived.Test.YteiogfmfcmfpjaaXCln02
namespace Go.Proofs.Yteiogfmfcmfpjaa.Rd
set_option linter.unusedVariables false
set_option linter.unusedSimpArgs false
open Go.RowKit Go.Proofs.YteiogfmfcmfpjaaW.PrintWords Go.Proofs.YteiogfmfcmfpjaaW.PrintLast Go.Proofs.YteiogfmfcmfpjaaW.PrintMore
open Go.Proofs.Yteiogfmfcmfpjaa.P

/-- The reference's reader at block g, over bytes that lie neither in it nor in the blocks x, in what has turned above w0 alone. -/
structure SdAt (w0 w : World) (x : Nat → Prop) (g : Nat) (rest : List Int) (er : Int) (p : Option Addr) (c : Nat) : Prop where
  blk : w.heap[g]? = some (.cells #[.slice p rest.length c, .int .i64 er] 65 (0, 0))
  cap : rest.length ≤ c
  foot : Kd.F (Kd.int .u8) w (fun k => k ≠ g ∧ ¬ x k) p rest.length rest
  gx : ¬ x g
  g0 : w0.heap.size ≤ g
  low : Below w0.heap.size w0 w
  ok : bytesOk rest
  big : rest.length ≤ 140737488355000
def Sd (w0 w : World) (x : Nat → Prop) (g : Nat) (rest : List Int) (er : Int) : Prop := ∃ p c, SdAt w0 w x g rest er p c
section
variable {w0 w w' : World} {x : Nat → Prop} {g c : Nat} {rest : List Int} {er : Int} {p : Option Addr}
theorem SdAt.lt (h : SdAt w0 w x g rest er p c) : g < w.heap.size := lt_of_blk h.blk
theorem SdAt.cells (h : SdAt w0 w x g rest er p c) : w.cell? ⟨g, 0, none⟩ = some (.slice p rest.length c) ∧ w.cell? ⟨g, 1, none⟩ = some (.int .i64 er) ∧ w.frozen? ⟨g, 0, none⟩ = false ∧ w.frozen? ⟨g, 1, none⟩ = false := ⟨(blk_cell h.blk 0).trans rfl, (blk_cell h.blk 1).trans rfl, blk_frozen h.blk 0, blk_frozen h.blk 1⟩
theorem SdAt.below (h : SdAt w0 w x g rest er p c) (hb : Below w.heap.size w w') : SdAt w0 w' x g rest er p c :=
  ⟨blk_below h.blk hb, h.cap, Kd.F_below h.foot hb, h.gx, h.g0, below_step h.low hb, h.ok, h.big⟩
theorem SdAt.note (h : SdAt w0 w x g rest er p c) (e : Int) : SdAt w0 (w.setCell ⟨g, 1, none⟩ (.int .i64 e)) x g rest e p c :=
  ⟨blk_put h.blk 1 _ rfl, h.cap, Kd.F_far h.foot (fun k hk => hk.1) _, h.gx, h.g0, h.low.setCell h.g0 _, h.ok, h.big⟩
theorem SdAt.gone (h : SdAt w0 w x g rest er p c) (n : Nat) (hn : n ≤ rest.length) : SdAt w0 (w.setCell ⟨g, 0, none⟩ (.slice (if c = n then p else p.map (·.add (n * 1))) (rest.length - n) (c - n))) x g (rest.drop n) er (if c = n then p else p.map (·.add (n * 1))) (c - n) := by
  have hl : (rest.drop n).length = rest.length - n := List.length_drop
  refine ⟨?_, by rw [hl]; have := h.cap; omega, ?_, h.gx, h.g0, h.low.setCell h.g0 _, fun y hy => h.ok y (List.mem_of_mem_drop hy), by rw [hl]; have := h.big; omega⟩
  · rw [hl]; exact blk_put h.blk 0 _ rfl
  · exact Kd.F_far (Kd.F_imp h.foot (fun W' hc => Kd.C_drop hc hn h.cap)) (fun k hk => hk.1) _
/-- A call beside it. -/
theorem SdAt.upd {y : Nat} (h : SdAt w0 w x g rest er p c) (hx : x y) (hu : Upd w w' y) (hy : w0.heap.size ≤ y) : SdAt w0 w' x g rest er p c :=
  ⟨(hu.block g (lt_of_blk h.blk) (fun e => h.gx (e ▸ hx))).trans h.blk, h.cap, Kd.F_step h.foot (fun k hk hlt => hu.block k hlt (fun e => hk.2 (e ▸ hx))), h.gx, h.g0, hu.below h.low hy h.low.size, h.ok, h.big⟩
theorem Sd.upd {y : Nat} (h : Sd w0 w x g rest er) (hx : x y) (hu : Upd w w' y) (hy : w0.heap.size ≤ y) : Sd w0 w' x g rest er := by obtain ⟨p, c, h⟩ := h; exact ⟨p, c, h.upd hx hu hy⟩
/-- A block more beside it; one less. -/
theorem Sd.more {q : Nat} (h : Sd w0 w x g rest er) (hq : q = w.heap.size) (hb : Below w.heap.size w w') : Sd w0 w' (fun k => x k ∨ k = q) g rest er := by
  obtain ⟨p, c, h⟩ := h
  have hlt := lt_of_blk h.blk
  exact ⟨p, c, blk_below h.blk hb, h.cap, Kd.F_mono (Kd.F_below (Kd.F_bound h.foot) hb) (fun k hk => ⟨hk.1.1, fun e => e.elim hk.1.2 (fun e => by have := hk.2; omega)⟩), fun e => e.elim h.gx (fun e => by omega), h.g0, below_step h.low hb, h.ok, h.big⟩
theorem Sd.less {y : Nat → Prop} (h : Sd w0 w x g rest er) (hy : ∀ k, y k → x k) : Sd w0 w y g rest er := by
  obtain ⟨p, c, h⟩ := h
  exact ⟨p, c, h.blk, h.cap, Kd.F_mono h.foot (fun k hk => ⟨hk.1, fun e => hk.2 (hy k e)⟩), fun e => h.gx (hy g e), h.g0, h.low, h.ok, h.big⟩
theorem Sd.below (h : Sd w0 w x g rest er) (hb : Below w.heap.size w w') : Sd w0 w' x g rest er := by obtain ⟨p, c, h⟩ := h; exact ⟨p, c, h.below hb⟩
theorem Sd.lt (h : Sd w0 w x g rest er) : g < w.heap.size := by obtain ⟨p, c, h⟩ := h; exact h.lt

/-! ### take -/
theorem rtake_stopped (h : SdAt w0 w x g rest er p c) (he : er ≠ 0) (n : Int) (ok : Bool) :
    Calls Try.prog 37 #[.pointer (some ⟨g, 0, none⟩), .int .i64 n, .bool ok] w fun e w' => e = .returned (.slice none 0 0) ∧ w' = w := by
  obtain ⟨c0, c1, f0, f1⟩ := h.cells
  have he2 : (er != 0) = true := by simpa using he
  clear he h c0 f0 f1
  go_enter Try.func37, Try.ntmps37
  go_wp2
  go_ret
  exact ⟨rfl, rfl⟩
theorem rtake_wrong (h : SdAt w0 w x g rest 0 p c) (n : Int) :
    Calls Try.prog 37 #[.pointer (some ⟨g, 0, none⟩), .int .i64 n, .bool false] w fun e w' => e = .returned (.slice none 0 0) ∧ w' = w.setCell ⟨g, 1, none⟩ (.int .i64 2) := by
  obtain ⟨c0, c1, f0, f1⟩ := h.cells
  clear h c0 f0
  go_enter Try.func37, Try.ntmps37
  go_wp2
  go_ret
  exact ⟨rfl, rfl⟩
theorem rtake_short (h : SdAt w0 w x g rest 0 p c) (n : Int) (hn : (rest.length : Int) < n) :
    Calls Try.prog 37 #[.pointer (some ⟨g, 0, none⟩), .int .i64 n, .bool true] w fun e w' => e = .returned (.slice none 0 0) ∧ w' = w.setCell ⟨g, 1, none⟩ (.int .i64 5) := by
  obtain ⟨c0, c1, f0, f1⟩ := h.cells
  have d : decide ((rest.length : Int) < n) = true := decide_eq_true hn
  clear h f0
  go_enter Try.func37, Try.ntmps37
  go_wp2
  go_ret
  exact ⟨rfl, rfl⟩
def TakePost (w0 w : World) (x : Nat → Prop) (g : Nat) (l rest : List Int) (e : Ending) (w' : World) : Prop := ∃ v, e = .returned v ∧ Kd.R (Kd.int .u8) 5 w' w.heap.size (fun _ => True) v l ∧ Sd w0 w' x g rest 0 ∧ Upd w w' g
set_option maxHeartbeats 1000000 in
theorem rtake_some (h : SdAt w0 w x g rest 0 p c) (n : Nat) (hn : n ≤ rest.length) :
    Calls Try.prog 37 #[.pointer (some ⟨g, 0, none⟩), .int .i64 n, .bool true] w (TakePost w0 w x g (rest.take n) (rest.drop n)) := by
  obtain ⟨c0, c1, f0, f1⟩ := h.cells
  obtain ⟨i0, hi0, _, hsz, _⟩ := info_parts app_info
  have d : decide (rest.length < n) = false := decide_eq_false (by omega)
  have hcutT := cut_to (P := Try.prog) 22 5 .i64 Try.underlying22 hi0 p rest.length c (n : Int) (by omega) (by omega) h.cap
  have hcutF := cut_from (P := Try.prog) 22 5 .i64 Try.underlying22 hi0 1 hsz p rest.length c (n : Int) (by omega) (by omega)
  rw [Int.toNat_natCast] at hcutT hcutF
  have HG := Lib.hid (fun w2 (hb : Below w.heap.size w w2) => (h.below hb).gone n hn)
  obtain ⟨p', hp'⟩ : ∃ p', (if c = n then p else p.map (·.add (n * 1))) = p' := ⟨_, rfl⟩
  rw [hp'] at hcutF HG
  have q1 := eq_true (show 0 ≤ (n : Int) by omega)
  have q2 := eq_true (show (n : Int) ≤ (rest.length : Int) by omega)
  have HLT := Lib.hid h.lt
  have H := Lib.hid h
  have HT : Hid (Kd.C (Kd.int .u8) w p (rest.take n).length (rest.take n)) := Kd.C_take (Kd.F_now h.foot) hn
  have HTL : Hid ((rest.take n).length = n) := (by rw [List.length_take]; omega : (rest.take n).length = n)
  clear h hp' hn
  go_enter Try.func37, Try.ntmps37
  go_wp2_with (first
    | ((with_reducible refine gate_dst (N := 32) rfl ?_); refine Kd.R_lit (Kd.int .u8) (w0 := w) w.heap.size 5 ?hg (N := 32) ?hd (xs := ([] : List Int)) (inner := []) (ok := fun _ => True) (okp := fun _ => True) ?hr ?hp (fun _ hk => hk) trivial (Below.refl _ _) (Nat.le_refl _) (by simp) ?_; (case hd => rfl); (case hg => rfl); (case hr => first | (go_simp; done) | (go_simp; rfl)); (case hp => exact (Reps.none _ _)); intro v1 w1 ho1 hb1 _ _; have HO := Lib.hid ho1; have HB := Lib.hid hb1; clear c0 c1 f0 f1; obtain ⟨c0, c1, f0, f1⟩ := (H.out.below hb1).cells; clear ho1 hb1)
    | ((with_reducible refine gate_builtin (b := .append) (xs := #[.tmp 32, .tmp 38]) rfl ?_); at_builtin; refine Kd.R_append_rows (Kd.int .u8) (w0 := w) w.heap.size rfl (.tmp 32) (.tmp 38) 22 5 (.int .u8 0) 1 rfl Try.underlying22 app_info rfl (by decide) (by omega) v1 [] (rest.take n) p n c (fun _ => True) (fun _ => False) rfl rfl HO.out ?aC (fun _ _ h => h) (fun _ h => h.elim) (fun _ _ => trivial) HB.out HB.out.size ?aL ?_; (case aC => have := Kd.C_below HT.out HB.out; rw [HTL.out] at this; exact this); (case aL => have := H.out.big; have := HTL.out; have hx : (rest.take n).length ≤ rest.length := List.length_take_le' _ _; simp; omega); intro v2 w2 ho2 hb2 _ _; rw [List.nil_append] at ho2; have HO2 := Lib.hid ho2; have HB2 := Lib.hid hb2; clear c0 c1 f0 f1; obtain ⟨c0, c1, f0, f1⟩ := (H.out.below hb2).cells; clear ho2 hb2))
  go_ret
  refine ⟨v2, rfl, Kd.R_far (Kd.R_mono (ok' := fun k => k ≠ g) (Kd.R_bound HO2.out) (fun k hk => ?_)) (fun k hk => hk) _ |> fun h => Kd.R_mono h (fun _ _ => trivial), ⟨_, _, HG.out w2 HB2.out⟩, (Upd.of_below HB2.out g).trans (Upd.set w2 g 0 _)⟩
  have h1 := hk.2.1
  have h2 := HLT.out
  omega
theorem Sd.take (h : Sd w0 w x g rest er) (n : Int) (ok : Bool) (hn : ok = true → 0 ≤ n) :
    (∃ l r, takeS rest er n ok = (some l, r, 0) ∧ Calls Try.prog 37 #[.pointer (some ⟨g, 0, none⟩), .int .i64 n, .bool ok] w (TakePost w0 w x g l r)) ∨
    (∃ r e', takeS rest er n ok = (none, r, e') ∧ Calls Try.prog 37 #[.pointer (some ⟨g, 0, none⟩), .int .i64 n, .bool ok] w fun e w' => e = .returned (.slice none 0 0) ∧ Sd w0 w' x g r e' ∧ Upd w w' g) := by
  obtain ⟨p, c, h⟩ := h
  unfold takeS
  by_cases he : er ≠ 0
  · rw [if_pos he]
    refine .inr ⟨_, _, rfl, (rtake_stopped h he n ok).mono ?_⟩
    rintro e w' ⟨rfl, rfl⟩
    exact ⟨rfl, ⟨p, c, h⟩, Upd.refl _ _⟩
  · rw [if_neg he]
    obtain rfl : er = 0 := Decidable.of_not_not he
    cases ok with
    | false =>
      rw [if_pos rfl]
      refine .inr ⟨_, _, rfl, (rtake_wrong h n).mono ?_⟩
      rintro e w' ⟨rfl, rfl⟩
      exact ⟨rfl, ⟨p, c, h.note 2⟩, Upd.set _ _ _ _⟩
    | true =>
      rw [if_neg (by simp)]
      by_cases hs : (rest.length : Int) < n
      · rw [if_pos hs]
        refine .inr ⟨_, _, rfl, (rtake_short h n hs).mono ?_⟩
        rintro e w' ⟨rfl, rfl⟩
        exact ⟨rfl, ⟨p, c, h.note 5⟩, Upd.set _ _ _ _⟩
      · rw [if_neg hs]
        obtain ⟨m, rfl⟩ := Int.eq_ofNat_of_zero_le (hn rfl)
        rw [Int.toNat_natCast]
        exact .inl ⟨_, _, rfl, rtake_some h m (by omega)⟩
end
end Go.Proofs.Yteiogfmfcmfpjaa.Rd
