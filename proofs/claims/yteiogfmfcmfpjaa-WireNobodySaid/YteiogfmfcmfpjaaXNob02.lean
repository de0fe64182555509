/- A nil reader and a zero reader; the law WireNobody. -/
import Derived.Test.YteiogfmfcmfpjaaXAwk02
import Derived.Test.YteiogfmfcmfpjaaPx1
namespace Go.Proofs.Yteiogfmfcmfpjaa.P
set_option linter.unusedVariables false
set_option linter.unusedSimpArgs false
open Go.RowKit Go.Proofs.YteiogfmfcmfpjaaW.PrintWords Go.Proofs.YteiogfmfcmfpjaaW.PrintLast Go.Proofs.YteiogfmfcmfpjaaW.PrintMore Go.Proofs.Yteiogfmfcmfpjaa.Rd

theorem right_f (n : Int) : wire_right.f n = some (rightS n) := by
  unfold wire_right.f rightS
  split <;> simp <;> omega
theorem nil_take (n : Int) (ok : Bool) (w : World) : Calls Try.prog 35 #[.pointer none, .int .i64 n, .bool ok] w fun e w' => e = .returned (.tuple #[.slice none 0 0, .bool false]) ∧ Below w.heap.size w w' := by
  go_enter Try.func35, Try.ntmps35
  go_wp2
  go_ret2
  exact ⟨rfl, Below.refl _ _⟩
theorem nil_uint (n : Int) (w : World) : Calls Try.prog 17 #[.pointer none, .int .i64 n] w fun e w' => e = .returned (.int .u64 0) ∧ Below w.heap.size w w' := by
  go_enter Try.func17, Try.ntmps17
  go_wp2_with (first
    | ((with_reducible refine gate_callee (f := 34) rfl ?_); refine goesL_ _ rfl rfl Try.func34 (by kernel_rfl) rfl #[.int .i64 n] rfl (by (try simp only [List.map_toArray, List.map_cons, List.map_nil]); first | done | rfl) ?_; refine (wire_right.calls n _ _ (right_f n)).mono ?_; rintro e w1 ⟨rfl, hb1⟩; refine ⟨_, rfl, ?_⟩; have HB1 := Lib.hid hb1.below; clear hb1)
    | ((with_reducible refine gate_callee (f := 35) rfl ?_); refine goesL_ _ rfl rfl Try.func35 (by kernel_rfl) rfl #[.pointer none, .int .i64 n, .bool (rightS n)] rfl (by (try simp only [List.map_toArray, List.map_cons, List.map_nil]); first | done | rfl) ?_; refine (nil_take n (rightS n) _).mono ?_; rintro e w2 ⟨rfl, hb2⟩; refine ⟨_, rfl, ?_⟩; have HB2 := Lib.hid (below_step HB1.out hb2); clear hb2))
  go_ret
  exact ⟨rfl, HB2.out⟩
theorem nil_int (n : Int) (w : World) : Calls Try.prog 16 #[.pointer none, .int .i64 n] w fun e w' => e = .returned (.int .i64 0) ∧ Below w.heap.size w w' := by
  go_enter Try.func16, Try.ntmps16
  go_wp2_with (first
    | ((with_reducible refine gate_callee (f := 34) rfl ?_); refine goesL_ _ rfl rfl Try.func34 (by kernel_rfl) rfl #[.int .i64 n] rfl (by (try simp only [List.map_toArray, List.map_cons, List.map_nil]); first | done | rfl) ?_; refine (wire_right.calls n _ _ (right_f n)).mono ?_; rintro e w1 ⟨rfl, hb1⟩; refine ⟨_, rfl, ?_⟩; have HB1 := Lib.hid hb1.below; clear hb1)
    | ((with_reducible refine gate_callee (f := 35) rfl ?_); refine goesL_ _ rfl rfl Try.func35 (by kernel_rfl) rfl #[.pointer none, .int .i64 n, .bool (rightS n)] rfl (by (try simp only [List.map_toArray, List.map_cons, List.map_nil]); first | done | rfl) ?_; refine (nil_take n (rightS n) _).mono ?_; rintro e w2 ⟨rfl, hb2⟩; refine ⟨_, rfl, ?_⟩; have HB2 := Lib.hid (below_step HB1.out hb2); clear hb2))
  go_ret
  exact ⟨rfl, HB2.out⟩
theorem nil_bytes (n : Int) (w : World) : Calls Try.prog 28 #[.pointer none, .int .i64 n] w fun e w' => e = .returned (.slice none 0 0) ∧ Below w.heap.size w w' := by
  go_enter Try.func28, Try.ntmps28
  go_wp2_with (first
    | ((with_reducible refine gate_callee (f := 35) rfl ?_); refine goesL_ _ rfl rfl Try.func35 (by kernel_rfl) rfl #[.pointer none, .int .i64 n, .bool (decide (0 ≤ n))] rfl (by (try simp only [List.map_toArray, List.map_cons, List.map_nil]); first | done | rfl) ?_; refine (nil_take n _ _).mono ?_; rintro e w2 ⟨rfl, hb2⟩; refine ⟨_, rfl, ?_⟩; have HB2 := Lib.hid hb2; clear hb2))
  go_ret
  exact ⟨rfl, HB2.out⟩
theorem nil_skip (n : Int) (w : World) : Calls Try.prog 30 #[.pointer none, .int .i64 n] w fun e w' => e = .returned (.tuple #[]) ∧ Below w.heap.size w w' := by
  go_enter Try.func30, Try.ntmps30
  go_wp2_with (first
    | ((with_reducible refine gate_callee (f := 35) rfl ?_); refine goesL_ _ rfl rfl Try.func35 (by kernel_rfl) rfl #[.pointer none, .int .i64 n, .bool (decide (0 ≤ n))] rfl (by (try simp only [List.map_toArray, List.map_cons, List.map_nil]); first | done | rfl) ?_; refine (nil_take n _ _).mono ?_; rintro e w2 ⟨rfl, hb2⟩; refine ⟨_, rfl, ?_⟩; have HB2 := Lib.hid hb2; clear hb2))
  (try simp only [Exit.inBlock, Exit.then])
  refine bodyPost_end (results_none rfl _ _ _) rfl ?_
  exact ⟨rfl, HB2.out⟩
theorem nil_left (w : World) : Calls Try.prog 18 #[.pointer none] w fun e w' => e = .returned (.int .i64 0) ∧ w' = w := by
  go_enter Try.func18, Try.ntmps18
  go_wp2
  go_ret
  exact ⟨rfl, rfl⟩
theorem nil_err (w : World) : Calls Try.prog 19 #[.pointer none] w fun e w' => e = .returned (.int .i64 1) ∧ w' = w := by
  go_enter Try.func19, Try.ntmps19
  go_wp2
  go_ret
  exact ⟨rfl, rfl⟩

/-- A zero reader with an error. -/
def Zr (w : World) (g : Nat) (e : Int) : Prop := w.heap[g]? = some (.cells #[.slice none 0 0, .int .i64 e] 58 (0, 0))
section
variable {w : World} {g : Nat} {e : Int}
theorem Zr.c0 (h : Zr w g e) : w.cell? ⟨g, 0, none⟩ = some (.slice none 0 0) := by rw [Joins.cell_of_block h]; rfl
theorem Zr.c1 (h : Zr w g e) : w.cell? ⟨g, 1, none⟩ = some (.int .i64 e) := by rw [Joins.cell_of_block h]; rfl
theorem Zr.free (h : Zr w g e) (i : Nat) : w.frozen? ⟨g, i, none⟩ = false := Joins.unfrozen_of_block h i
theorem Zr.left (h : Zr w g e) : Calls Try.prog 18 #[.pointer (some ⟨g, 0, none⟩)] w fun e w' => e = .returned (.int .i64 0) ∧ w' = w := by
  have c0 := h.c0
  clear h
  go_enter Try.func18, Try.ntmps18
  go_wp2
  go_ret
  exact ⟨rfl, rfl⟩
theorem Zr.err (h : Zr w g e) : Calls Try.prog 19 #[.pointer (some ⟨g, 0, none⟩)] w fun e1 w' => e1 = .returned (.int .i64 e) ∧ w' = w := by
  have c0 := h.c1
  clear h
  go_enter Try.func19, Try.ntmps19
  go_wp2
  go_ret
  exact ⟨rfl, rfl⟩
theorem Zr.take_bad (h : Zr w g 0) (n : Int) : Calls Try.prog 35 #[.pointer (some ⟨g, 0, none⟩), .int .i64 n, .bool false] w fun e1 w' => e1 = .returned (.tuple #[.slice none 0 0, .bool false]) ∧ Zr w' g 2 ∧ Upd w w' g := by
  have H := Lib.hid h
  have c0 := h.c0
  have c1 := h.c1
  have f1 := h.free 1
  clear h
  go_enter Try.func35, Try.ntmps35
  go_wp2
  go_ret2
  refine ⟨rfl, ?_, Upd.set _ _ _ _⟩
  unfold Zr
  rw [Joins.block_setCell H.out]
  rfl
theorem Zr.take_short (h : Zr w g 0) (n : Int) (hn : 0 < n) : Calls Try.prog 35 #[.pointer (some ⟨g, 0, none⟩), .int .i64 n, .bool true] w fun e1 w' => e1 = .returned (.tuple #[.slice none 0 0, .bool false]) ∧ Zr w' g 5 ∧ Upd w w' g := by
  have H := Lib.hid h
  have c0 := h.c0
  have c1 := h.c1
  have f1 := h.free 1
  have d0 : decide (0 < n) = true := decide_eq_true hn
  clear h
  go_enter Try.func35, Try.ntmps35
  go_wp2
  go_ret2
  refine ⟨rfl, ?_, Upd.set _ _ _ _⟩
  unfold Zr
  rw [Joins.block_setCell H.out]
  rfl
theorem Zr.take_zero (h : Zr w g 0) : Calls Try.prog 35 #[.pointer (some ⟨g, 0, none⟩), .int .i64 0, .bool true] w fun e1 w' => e1 = .returned (.tuple #[.slice none 0 0, .bool true]) ∧ Zr w' g 0 ∧ Upd w w' g := by
  have H := Lib.hid h
  have c0 := h.c0
  have c1 := h.c1
  have f0 := h.free 0
  clear h
  go_enter Try.func35, Try.ntmps35
  go_wp2
  go_ret2
  refine ⟨rfl, ?_, Upd.set _ _ _ _⟩
  unfold Zr
  rw [Joins.block_setCell H.out]
  rfl
set_option maxHeartbeats 1000000 in
theorem Zr.bytes (h : Zr w g 0) : Calls Try.prog 28 #[.pointer (some ⟨g, 0, none⟩), .int .i64 0] w fun e1 w' => ∃ p, e1 = .returned (.slice p 0 0) ∧ Zr w' g 0 ∧ Upd w w' g := by
  have hg := lt_of_blk h
  have HT := Lib.hid (Zr.take_zero h)
  have hmk : ∀ W : World, (Instr.makeSlice 22 (.int .i64 0) (.int .i64 0)).run Try.prog W = .ok (.slice (some ⟨W.heap.size, 0, none⟩) 0 0) (W.alloc (.cells (madeCells #[.int .u8 0] 0) 5)) := fun W => run_make_bytes W 0 (by omega)
  have hsz := size_bytes
  clear h
  go_enter Try.func28, Try.ntmps28
  go_wp2_with (first
    | ((with_reducible refine gate_callee (f := 35) rfl ?_); refine goesL_ _ rfl rfl Try.func35 (by kernel_rfl) rfl #[.pointer (some ⟨g, 0, none⟩), .int .i64 0, .bool true] rfl (by (try simp only [List.map_toArray, List.map_cons, List.map_nil]); first | done | rfl) ?_; refine HT.out.mono ?_; rintro e w1 ⟨rfl, hz, hu⟩; refine ⟨_, rfl, ?_⟩; have HZ := Lib.hid hz; have HU := Lib.hid hu; have HF := Lib.hid (copy_facts (w1 := w1) (p := none) (n := 0) (l := []) (Kd.C_nil _ _) rfl (by omega)); clear hz hu)
    | ((with_reducible refine gate_dst (N := 22) rfl ?_); refine wpList_copy_splice rfl (.tmp 20) (.tmp 21) 22 22 rfl 5 Try.underlying22 hsz _ _ _ _ _ _ rfl rfl w1.heap.size 0 _ 5 HF.out.h0 (encs (Value.int .u8) []) HF.out.h1 HF.out.h2 HF.out.h3 HF.out.h4 w1.heap.size w1 HF.out.h5 (Nat.le_refl _) ?_; intro w2 hg2 hb2; have HB := Lib.hid hb2; clear hg2 hb2)
    | go_in)
  go_ret
  exact ⟨_, rfl, (HB.out.block g (lt_of_blk HZ.out)).trans HZ.out, HU.out.trans (Upd.of_below HB.out g)⟩
theorem Zr.uint (h : Zr w g 0) (n e' : Int) (he : (if rightS n = true then (5 : Int) else 2) = e') : Calls Try.prog 17 #[.pointer (some ⟨g, 0, none⟩), .int .i64 n] w fun e1 w' => e1 = .returned (.int .u64 0) ∧ Zr w' g e' ∧ Upd w w' g := by
  have HT : Hid (∀ w1, Zr w1 g 0 → Calls Try.prog 35 #[.pointer (some ⟨g, 0, none⟩), .int .i64 n, .bool (rightS n)] w1 fun e1 w' => e1 = .returned (.tuple #[.slice none 0 0, .bool false]) ∧ Zr w' g e' ∧ Upd w1 w' g) := by
    show ∀ _, _
    intro w1 h1
    rw [← he]
    cases hr : rightS n
    · exact Zr.take_bad h1 n
    · have hn : 1 ≤ n ∧ n ≤ 8 := of_decide_eq_true hr
      exact Zr.take_short h1 n (by omega)
  have HZ := Lib.hid h
  clear h he
  go_enter Try.func17, Try.ntmps17
  go_wp2_with (first
    | ((with_reducible refine gate_callee (f := 34) rfl ?_); refine goesL_ _ rfl rfl Try.func34 (by kernel_rfl) rfl #[.int .i64 n] rfl (by (try simp only [List.map_toArray, List.map_cons, List.map_nil]); first | done | rfl) ?_; refine (wire_right.calls n _ _ (right_f n)).mono ?_; rintro e w1 ⟨rfl, hb1⟩; refine ⟨_, rfl, ?_⟩; have HB1 := Lib.hid hb1.below; clear hb1)
    | ((with_reducible refine gate_callee (f := 35) rfl ?_); refine goesL_ _ rfl rfl Try.func35 (by kernel_rfl) rfl #[.pointer (some ⟨g, 0, none⟩), .int .i64 n, .bool (rightS n)] rfl (by (try simp only [List.map_toArray, List.map_cons, List.map_nil]); first | done | rfl) ?_; refine (HT.out _ ((HB1.out.block g (lt_of_blk HZ.out)).trans HZ.out)).mono ?_; rintro e w2 ⟨rfl, hz, hu⟩; refine ⟨_, rfl, ?_⟩; have HZ2 := Lib.hid hz; have HU := Lib.hid ((Upd.of_below HB1.out g).trans hu); clear hz hu))
  go_ret
  exact ⟨rfl, HZ2.out, HU.out⟩
end
set_option maxHeartbeats 2000000 in
theorem nobody_walk (n : Int) (w : World) : Calls Try.prog 9 #[.int .i64 n] w fun e w' => e = .returned (.bool true) ∧ Below w.heap.size w w' := by
  have HB := Lib.hid (Below.refl w.heap.size w)
  have hn : (decide (1 ≤ n) = false ∧ (if rightS n = true then (5 : Int) else 2) = 2) ∨ (decide (1 ≤ n) = true ∧ decide (n ≤ 8) = true ∧ (if rightS n = true then (5 : Int) else 2) = 5) ∨ (decide (1 ≤ n) = true ∧ decide (n ≤ 8) = false ∧ (if rightS n = true then (5 : Int) else 2) = 2) := by
    unfold rightS
    by_cases h1 : 1 ≤ n <;> by_cases h8 : n ≤ 8 <;> simp [h1, h8]
  rcases hn with ⟨c1, c3⟩ | ⟨c1, c2, c3⟩ | ⟨c1, c2, c3⟩
  all_goals
    have C3 := Lib.hid c3
    clear c3
    go_enter Try.func9, Try.ntmps9
    go_wp2_with (first
      | ((with_reducible refine gate_dst (N := 4) rfl ?_); refine box_event ?hg (N := 4) ?hd (cs := #[.slice none 0 0, .int .i64 0]) (t := 58) ?hr ?_; (case hd => rfl); (case hg => rfl); (case hr => first | (go_simp; done) | (go_simp; rfl)); intro g hg w1 hbox hb1; have hgl : w.heap.size ≤ g := (by have := HB.out.size; omega); have hb := below_step HB.out hb1; have hz : Zr w1 g 0 := hbox; clear HB; have HB := Lib.hid hb; have HZ := Lib.hid hz; have HG := Lib.hid hgl; clear hb hb1 hg hbox hz hgl)
      | ((with_reducible refine gate_callee (f := 30) rfl ?_); (try (refine gate_guard (by rfl) ?_; dsimp only)); refine goesL_ _ rfl rfl Try.func30 (by kernel_rfl) rfl #[.pointer none, .int .i64 n] rfl (by (try simp only [List.map_toArray, List.map_cons, List.map_nil]); first | done | rfl) ?_; refine (nil_skip n _).mono ?_; rintro e wn ⟨rfl, hbn⟩; refine ⟨_, rfl, ?_⟩; have hb := below_step HB.out hbn; have hz : Zr wn g 0 := (hbn.block g (lt_of_blk HZ.out)).trans HZ.out; clear HB HZ; have HB := Lib.hid hb; have HZ := Lib.hid hz; clear hb hbn hz)
      | ((with_reducible refine gate_callee (f := 17) rfl ?_); (try (refine gate_guard (by rfl) ?_; dsimp only)); refine goesL_ _ rfl rfl Try.func17 (by kernel_rfl) rfl #[.pointer none, .int .i64 n] rfl (by (try simp only [List.map_toArray, List.map_cons, List.map_nil]); first | done | rfl) ?_; refine (nil_uint n _).mono ?_; rintro e wn ⟨rfl, hbn⟩; refine ⟨_, rfl, ?_⟩; have hb := below_step HB.out hbn; have hz : Zr wn g 0 := (hbn.block g (lt_of_blk HZ.out)).trans HZ.out; clear HB HZ; have HB := Lib.hid hb; have HZ := Lib.hid hz; clear hb hbn hz)
      | ((with_reducible refine gate_callee (f := 16) rfl ?_); (try (refine gate_guard (by rfl) ?_; dsimp only)); refine goesL_ _ rfl rfl Try.func16 (by kernel_rfl) rfl #[.pointer none, .int .i64 n] rfl (by (try simp only [List.map_toArray, List.map_cons, List.map_nil]); first | done | rfl) ?_; refine (nil_int n _).mono ?_; rintro e wn ⟨rfl, hbn⟩; refine ⟨_, rfl, ?_⟩; have hb := below_step HB.out hbn; have hz : Zr wn g 0 := (hbn.block g (lt_of_blk HZ.out)).trans HZ.out; clear HB HZ; have HB := Lib.hid hb; have HZ := Lib.hid hz; clear hb hbn hz)
      | ((with_reducible refine gate_callee (f := 28) rfl ?_); (try (refine gate_guard (by rfl) ?_; dsimp only)); refine goesL_ _ rfl rfl Try.func28 (by kernel_rfl) rfl #[.pointer none, .int .i64 n] rfl (by (try simp only [List.map_toArray, List.map_cons, List.map_nil]); first | done | rfl) ?_; refine (nil_bytes n _).mono ?_; rintro e wn ⟨rfl, hbn⟩; refine ⟨_, rfl, ?_⟩; have hb := below_step HB.out hbn; have hz : Zr wn g 0 := (hbn.block g (lt_of_blk HZ.out)).trans HZ.out; clear HB HZ; have HB := Lib.hid hb; have HZ := Lib.hid hz; clear hb hbn hz)
      | ((with_reducible refine gate_callee (f := 18) rfl ?_); (try (refine gate_guard (by rfl) ?_; dsimp only)); refine goesL_ _ rfl rfl Try.func18 (by kernel_rfl) rfl #[.pointer none] rfl (by (try simp only [List.map_toArray, List.map_cons, List.map_nil]); first | done | rfl) ?_; refine (nil_left _).mono ?_; rintro e wn ⟨rfl, rfl⟩; refine ⟨_, rfl, ?_⟩)
      | ((with_reducible refine gate_callee (f := 19) rfl ?_); (try (refine gate_guard (by rfl) ?_; dsimp only)); refine goesL_ _ rfl rfl Try.func19 (by kernel_rfl) rfl #[.pointer none] rfl (by (try simp only [List.map_toArray, List.map_cons, List.map_nil]); first | done | rfl) ?_; refine (nil_err _).mono ?_; rintro e wn ⟨rfl, rfl⟩; refine ⟨_, rfl, ?_⟩)
      | ((with_reducible refine gate_callee (f := 18) rfl ?_); (try (refine gate_guard (by rfl) ?_; dsimp only)); refine goesL_ _ rfl rfl Try.func18 (by kernel_rfl) rfl #[.pointer (some ⟨g, 0, none⟩)] rfl (by (try simp only [List.map_toArray, List.map_cons, List.map_nil]); first | done | rfl) ?_; refine (Zr.left HZ.out).mono ?_; rintro e wn ⟨rfl, rfl⟩; refine ⟨_, rfl, ?_⟩)
      | ((with_reducible refine gate_callee (f := 19) rfl ?_); (try (refine gate_guard (by rfl) ?_; dsimp only)); refine goesL_ _ rfl rfl Try.func19 (by kernel_rfl) rfl #[.pointer (some ⟨g, 0, none⟩)] rfl (by (try simp only [List.map_toArray, List.map_cons, List.map_nil]); first | done | rfl) ?_; refine (Zr.err HZ.out).mono ?_; rintro e wn ⟨rfl, rfl⟩; refine ⟨_, rfl, ?_⟩)
      | ((with_reducible refine gate_callee (f := 28) rfl ?_); (try (refine gate_guard (by rfl) ?_; dsimp only)); refine goesL_ _ rfl rfl Try.func28 (by kernel_rfl) rfl #[.pointer (some ⟨g, 0, none⟩), .int .i64 0] rfl (by (try simp only [List.map_toArray, List.map_cons, List.map_nil]); first | done | rfl) ?_; refine (Zr.bytes HZ.out).mono ?_; rintro e wn ⟨pz, rfl, hz, hu⟩; refine ⟨_, rfl, ?_⟩; have hb := hu.below HB.out HG.out HB.out.size; clear HB HZ; have HB := Lib.hid hb; have HZ := Lib.hid hz; clear hb hz hu)
      | ((with_reducible refine gate_callee (f := 17) rfl ?_); (try (refine gate_guard (by rfl) ?_; dsimp only)); refine goesL_ _ rfl rfl Try.func17 (by kernel_rfl) rfl #[.pointer (some ⟨g, 0, none⟩), .int .i64 n] rfl (by (try simp only [List.map_toArray, List.map_cons, List.map_nil]); first | done | rfl) ?_; refine (Zr.uint HZ.out n _ C3.out).mono ?_; rintro e wn ⟨rfl, hz, hu⟩; refine ⟨_, rfl, ?_⟩; have hb := hu.below HB.out HG.out HB.out.size; clear HB HZ; have HB := Lib.hid hb; have HZ := Lib.hid hz; clear hb hz hu)
      | ((with_reducible refine gate_callee (f := 13) rfl ?_); (try (refine gate_guard (by rfl) ?_; dsimp only)); refine goesL_ _ rfl rfl Try.func13 (by kernel_rfl) rfl #[] rfl (by (try simp only [List.map_toArray, List.map_cons, List.map_nil]); first | done | rfl) ?_; refine (awake_true _).mono ?_; rintro e w9 ⟨rfl, hb9⟩; refine ⟨_, rfl, ?_⟩; have hb := below_step HB.out hb9; clear HB; have HB := Lib.hid hb; clear hb hb9)
      )
    go_ret
    exact ⟨rfl, HB.out⟩
def timesynclaw02_WireNobody.f (a0 : Int) : Option Bool := some true
theorem timesynclaw02_WireNobody.calls (a0 : Int) (r : Bool) (w : World) (h : timesynclaw02_WireNobody.f a0 = some r) :
    Calls Try.prog 9 #[.int .i64 a0] w fun e w' => e = .returned (.bool r) ∧ Below w.heap.size w w' := by
  unfold timesynclaw02_WireNobody.f at h
  obtain rfl := Option.some.inj h
  exact nobody_walk a0 w
end Go.Proofs.Yteiogfmfcmfpjaa.P
