/- wire.Append: the bytes of its argument and those of the number, or the error. -/
import Derived.Laws.CopyOwn
import Derived.Lib.SmallJoins
import Derived.Lib.Hide
import Derived.WalkSpells
import Derived.BigQuiet
import Derived.Test.YthneihebdlppeaaV
import Derived.Test.YthneihebdlppeaaXSet
import Derived.Test.YthneihebdlppeaaProg
namespace Go.Proofs.Ythneihebdlppeaa.P
set_option linter.unusedVariables false
open Go.RowKit Go.Proofs.YthneihebdlppeaaW.PrintWords Go.Proofs.YthneihebdlppeaaW.PrintLast Go.Proofs.YthneihebdlppeaaW.PrintMore

theorem app_info : (Try.prog.info? 5).map (fun i => (i.zero, i.size, i.bytes)) = some (some (.int .u8 0), 1, 1) := by kernel_rfl

theorem app_bad (A0 : Option Addr) (c0 : Nat) (l0 : List Int) (a1 a2 : Int) (w : World) (h : ¬ (1 ≤ a2 ∧ a2 ≤ 8)) :
    Calls Try.prog 40 #[.slice A0 l0.length c0, .int .u64 a1, .int .i64 a2] w fun e w' => e = .returned (.tuple #[.slice none 0 0, .int .i64 2]) ∧ w' = w := by
  by_cases h1 : 1 ≤ a2
  · have h2 : ¬ a2 ≤ 8 := by omega
    have d1 : decide (1 ≤ a2) = true := decide_eq_true h1
    have d2 : decide (a2 ≤ 8) = false := decide_eq_false h2
    go_enter Try.func40, Try.ntmps40
    go_wp2
    go_ret2
    exact ⟨rfl, rfl⟩
  · have d1 : decide (1 ≤ a2) = false := decide_eq_false h1
    go_enter Try.func40, Try.ntmps40
    go_wp2
    go_ret2
    exact ⟨rfl, rfl⟩

/-- The bytes of n, the most significant one first; of the last ones, those from j on are still 0. -/
def digit (n : Int) (s i : Nat) : Int := n / 2 ^ (8 * (s - 1 - i)) % 256
def appAt (l : List Int) (n : Int) (s j : Nat) : List Int := l ++ (List.range s).map fun i => if i < j then digit n s i else 0
theorem appAt_length (l : List Int) (n : Int) (s j : Nat) : (appAt l n s j).length = l.length + s := by simp [appAt]
theorem appAt_set (l : List Int) (n : Int) (s j : Nat) (hj : j < s) : (appAt l n s j).set (l.length + j) (digit n s j) = appAt l n s (j + 1) := by
  apply List.ext_getElem?
  intro k
  unfold appAt
  rw [List.getElem?_set]
  rcases Nat.lt_or_ge k l.length with h | h
  · rw [if_neg (by omega), List.getElem?_append_left h, List.getElem?_append_left h]
  · rw [List.getElem?_append_right h, List.getElem?_append_right h]
    rcases Nat.lt_or_ge (k - l.length) s with h2 | h2
    · rw [List.getElem?_map, List.getElem?_map, List.getElem?_range h2]
      simp only [Option.map_some]
      by_cases hk : l.length + j = k
      · rw [if_pos hk, if_pos (by simp; omega)]
        subst hk
        rw [if_pos (by omega)]
        simp
      · rw [if_neg hk]
        congr 1
        by_cases h3 : k - l.length < j
        · rw [if_pos h3, if_pos (by omega)]
        · rw [if_neg h3, if_neg (by omega)]
    · rw [List.getElem?_eq_none (by simpa using h2), List.getElem?_eq_none (by simpa using h2)]
      by_cases hk : l.length + j = k
      · omega
      · rw [if_neg hk]
theorem made_one (z : Value) (n : Nat) : (madeCells #[z] n).toList = List.replicate n z := by
  apply List.eq_replicate_iff.2
  refine ⟨by rw [Array.length_toList, size_madeCells], fun b hb => ?_⟩
  simp only [madeCells, Array.toList_map, List.mem_map] at hb
  obtain ⟨i, _, rfl⟩ := hb
  have : i % #[z].size = 0 := by simp; omega
  rw [this]; rfl
theorem appAt_zero (l : List Int) (n : Int) (s : Nat) : splice (madeCells #[.int .u8 0] (l.length + s)).toList 0 (encs (Value.int .u8) l) = encs (Value.int .u8) (appAt l n s 0) := by
  have e : (List.range s).map (fun i => if i < 0 then digit n s i else 0) = List.replicate s 0 := by
    apply List.eq_replicate_iff.2
    refine ⟨by simp, fun b hb => ?_⟩
    obtain ⟨i, _, rfl⟩ := List.mem_map.1 hb
    simp
  unfold splice appAt
  rw [made_one, e]
  simp [encs]
theorem appAt_all (l : List Int) (n : Int) (s : Nat) : appAt l n s s = l ++ (List.range s).map (digit n s) := by
  unfold appAt
  congr 1
  apply List.map_congr_left
  intro i hi
  rw [if_pos (List.mem_range.1 hi)]

set_option maxHeartbeats 2000000 in
theorem app_main (A0 : Option Addr) (c0 : Nat) (l0 : List Int) (a1 : Int) (s : Nat) (w : World) (hr0 : Kd.C (Kd.int .u8) w A0 l0.length l0) (h1 : 1 ≤ s) (h2 : s ≤ 8) (h3 : s < 8 → a1 / 2 ^ (8 * s) = 0) (hn0 : 0 ≤ a1) (hl : l0.length ≤ 140737488355000) :
    Calls Try.prog 40 #[.slice A0 l0.length c0, .int .u64 a1, .int .i64 s] w fun e w' => ∃ v0_ : Value, e = .returned (.tuple #[v0_, .int .i64 0]) ∧ w'.ownsRow w.heap.size 5 1 v0_ (l0.length + s) (encs (Value.int .u8) (appAt l0 a1 s s)) ∧ Below w.heap.size w w' := by
  have d1 : decide (1 ≤ (s : Int)) = true := decide_eq_true (by omega)
  have d2 : decide ((s : Int) ≤ 8) = true := decide_eq_true (by omega)
  have b1 : (s : Int) ≤ 8 := by omega
  have b0 : 1 ≤ (s : Int) := by omega
  obtain ⟨i0, hi, hz0, hz1, hz2⟩ := info_parts app_info
  have hmk : ∀ W : World, (Instr.makeSlice 48 (.int .i64 ((l0.length : Int) + s)) (.int .i64 ((l0.length : Int) + s))).run Try.prog W = .ok (.slice (some ⟨W.heap.size, 0, none⟩) (l0.length + s) (l0.length + s)) (W.alloc (.cells (madeCells #[.int .u8 0] (l0.length + s)) 5)) := by
    intro W
    have := run_make (P := Try.prog) W 48 5 i0 (.int .u8 0) Try.underlying48 hi hz0 .i64 .i64 ((l0.length : Int) + s) ((l0.length : Int) + s) (by omega) (by omega) (by rw [hz2]; omega) (by omega)
    rw [this, hz1, show ((l0.length : Int) + s).toNat = l0.length + s by omega, Nat.mul_one]; rfl
  have hsz : (Try.prog.info? 5).map (·.size) = some 1 := by rw [hi]; simp [hz1]
  have H0 : Hid ((w.alloc (.cells (madeCells #[.int .u8 0] (l0.length + s)) 5)).heap[w.heap.size]? = some (.cells (madeCells #[.int .u8 0] (l0.length + s)).toList.toArray 5 (0, 0))) := by
    show _ = _
    rw [Array.toArray_toList]
    exact heap_alloc_new w _
  have HR : Hid (0 < l0.length → ∃ ad, A0 = some ad ∧ ∀ j v, (encs (Value.int .u8) l0)[j]? = some v → (w.alloc (.cells (madeCells #[.int .u8 0] (l0.length + s)) 5)).cell? (ad.add j) = some v) := by
    show _
    intro hp
    have hC := Kd.C_below hr0 ((Below.refl _ _).alloc (Nat.le_refl _) (.cells (madeCells #[.int .u8 0] (l0.length + s)) 5))
    obtain ⟨_, _, hx⟩ := hC
    obtain ⟨ad, ha, hh⟩ := hx hp
    refine ⟨ad, ha, fun j v hj => ?_⟩
    unfold encs at hj
    rw [List.getElem?_map] at hj
    obtain ⟨x, hx1, hx2⟩ := Option.map_eq_some_iff.1 hj
    obtain ⟨c, _, hK, hcell⟩ := hh j x hx1
    have hK : c = [Value.int .u8 x] := hK
    have := hcell 0 (Value.int .u8 x) (by rw [hK]; rfl)
    rw [← hx2]
    simpa [Kd.int, Kd.scalar] using this
  have HC1 : Hid ((encs (Value.int .u8) l0).length = Nat.min l0.length (l0.length + s)) := by
    show _ = _
    rw [encs, List.length_map]; exact (Nat.min_eq_left (by omega)).symm
  have HC2 : Hid (0 < (encs (Value.int .u8) l0).length → (some (⟨w.heap.size, 0, none⟩ : Addr)) = some ⟨w.heap.size, 0, none⟩ ∧ ∃ ad, A0 = some ad ∧ ∀ j v, (encs (Value.int .u8) l0)[j]? = some v → (w.alloc (.cells (madeCells #[.int .u8 0] (l0.length + s)) 5)).cell? (ad.add j) = some v) := by
    show _
    intro hp
    exact ⟨rfl, HR.out (by rwa [encs, List.length_map] at hp)⟩
  have HC3 : Hid (0 + (encs (Value.int .u8) l0).length ≤ (madeCells #[.int .u8 0] (l0.length + s)).toList.length) := by
    show _ ≤ _
    have e1 : (encs (Value.int .u8) l0).length = l0.length := by simp [encs]
    have e2 : (madeCells #[.int .u8 0] (l0.length + s)).toList.length = l0.length + s := by rw [Array.length_toList, size_madeCells]
    omega
  have HC4 : Hid (∀ v ∈ encs (Value.int .u8) l0, v.oneCell' = true) := by
    show _
    intro v hv
    obtain ⟨x, _, rfl⟩ := List.mem_map.1 hv
    rfl
  have HC5 : Hid (Below w.heap.size w (w.alloc (.cells (madeCells #[.int .u8 0] (l0.length + s)) 5))) := (Below.refl _ _).alloc (Nat.le_refl _) _
  clear hr0
  by_cases h8 : s < 8
  all_goals
    first
    | (have d3 : decide ((s : Int) < 8) = true := decide_eq_true (by omega)
       have d4 : (a1 / 2 ^ (8 * s) != 0) = false := by simpa using h3 h8)
    | (have d3 : decide ((s : Int) < 8) = false := decide_eq_false (by omega))
    clear h3
    go_enter Try.func40, Try.ntmps40
    go_wp2_with (first | ((with_reducible refine gate_dst (N := 29) rfl ?_); go_loud (refine wpList_copy_splice rfl (.tmp 27) (.tmp 28) 48 48 rfl 5 Try.underlying48 hsz _ _ _ _ _ _ rfl rfl w.heap.size 0 _ 5 H0.out (encs (Value.int .u8) l0) HC1.out HC2.out HC3.out HC4.out w.heap.size w HC5.out (Nat.le_refl _) ?_); intro w1 hg1 hb1) | go_in)
    have hg2 : Hid (w1.heap[w.heap.size]? = some (.cells (encs (Value.int .u8) (appAt l0 a1 s 0)).toArray 5 (0, 0))) := by
      show _ = _
      rw [← appAt_zero]; exact hg1
    clear hg1
    clear HR H0 HC1 HC2 HC3 HC4 HC5
    go_loopw [9, 31] (fun _ v31 wr => ∃ k : Nat, k ≤ s ∧ v31 = .int .i64 k ∧ Hid (wr.heap[w.heap.size]? = some (.cells (encs (Value.int .u8) (appAt l0 a1 s k)).toArray 5 (0, 0))) ∧ Below w.heap.size w wr) (fun _ v31 _ => s - (intOf v31).toNat)
    case atStart => exact ⟨0, Nat.zero_le _, rfl, hg2, hb1⟩
    case round =>
      obtain ⟨k, hk, rfl, HG, HB⟩ := hrel
      clear hg2 hb1 hmk
      by_cases hlt : k < s
      · have hx := appAt_length l0 a1 s k
        have hcell : wr.cell? ⟨w.heap.size, l0.length + k, none⟩ = some (.int .u8 (rd (appAt l0 a1 s k) (l0.length + k : Nat))) := by
          rw [Joins.cell_of_block HG.out, List.getElem?_toArray, encs, List.getElem?_map]
          have hl2 : l0.length + k < (appAt l0 a1 s k).length := by omega
          rw [List.getElem?_eq_getElem hl2]
          unfold rd
          rw [Int.toNat_natCast, List.getD_eq_getElem?_getD, List.getElem?_eq_getElem hl2]
          rfl
        have hfree : wr.frozen? ⟨w.heap.size, l0.length + k, none⟩ = false := Joins.unfrozen_of_block HG.out _
        have HX := Lib.hid hx
        clear hx
        have HS : Hid ((wr.setCell ⟨w.heap.size, l0.length + k, none⟩ (.int .u8 (a1 / 2 ^ (8 * (s - 1 - k)) % 256))).heap[w.heap.size]? = some (.cells (encs (Value.int .u8) (appAt l0 a1 s (k + 1))).toArray 5 (0, 0))) := by
          show _ = _
          rw [Joins.block_setCell HG.out, ← appAt_set l0 a1 s k hlt]
          simp only [encs, List.setIfInBounds_toArray, List.map_set]
          rfl
        have HB2 : Hid (Below w.heap.size w (wr.setCell ⟨w.heap.size, l0.length + k, none⟩ (.int .u8 (a1 / 2 ^ (8 * (s - 1 - k)) % 256)))) := HB.setCell (Nat.le_refl _) _
        clear HG HB
        go_wp2
        go_roundw
        case rel => exact ⟨k + 1, by omega, by go_num, HS, HB2.out⟩
        case measure => simp [intOf]; omega
      · obtain rfl : k = s := by omega
        go_wp2
        go_ret2
        refine ⟨_, rfl, ⟨by simp [encs, appAt_length], .inr ⟨w.heap.size, l0.length + k, _, rfl, Nat.le_refl _, HG.out, Nat.le_refl _, by unfold maxLen; omega, by simp [encs, appAt_length], ?_⟩⟩, HB⟩
        rw [List.take_of_length_le (by simp [encs, appAt_length])]

def wire_Append.f (l0 : List Int) (a1 : Int) (a2 : Int) : Option (List Int × Int) :=
  if 0 ≤ a1 then
    if 1 ≤ a2 ∧ a2 ≤ 8 then
      if a2 < 8 ∧ a1 / 2 ^ (8 * a2.toNat) ≠ 0 then some ([], 3)
      else if l0.length ≤ 140737488355000 then some (l0 ++ (List.range a2.toNat).map (digit a1 a2.toNat), 0) else none
    else some ([], 2)
  else none
theorem app_range (A0 : Option Addr) (c0 : Nat) (l0 : List Int) (a1 : Int) (s : Nat) (w : World) (h1 : 1 ≤ s) (h2 : s < 8) (h3 : a1 / 2 ^ (8 * s) ≠ 0) (hn0 : 0 ≤ a1) :
    Calls Try.prog 40 #[.slice A0 l0.length c0, .int .u64 a1, .int .i64 s] w fun e w' => e = .returned (.tuple #[.slice none 0 0, .int .i64 3]) ∧ w' = w := by
  have d1 : decide (1 ≤ (s : Int)) = true := decide_eq_true (by omega)
  have d2 : decide ((s : Int) ≤ 8) = true := decide_eq_true (by omega)
  have d3 : decide ((s : Int) < 8) = true := decide_eq_true (by omega)
  have b1 : (s : Int) ≤ 8 := by omega
  have b0 : 1 ≤ (s : Int) := by omega
  have d4 : (a1 / 2 ^ (8 * s) != 0) = true := by simpa using h3
  clear h3
  go_enter Try.func40, Try.ntmps40
  go_wp2
  go_ret2
  exact ⟨rfl, rfl⟩
theorem wire_Append.calls (A0 : Option Addr) (c0 : Nat) (l0 : List Int) (a1 : Int) (a2 : Int) (r1 : List Int) (r2 : Int) (w : World) (hr0 : Kd.C (Kd.int .u8) w A0 l0.length l0) (hc0 : l0.length ≤ c0) (h : wire_Append.f l0 a1 a2 = some (r1, r2)) :
    Calls Try.prog 40 #[.slice A0 l0.length c0, .int .u64 a1, .int .i64 a2] w fun e w' => ∃ v0_ : Value, e = .returned (.tuple #[v0_, .int .i64 r2]) ∧ Kd.R (Kd.int .u8) 5 w' w.heap.size (fun _ => True) v0_ r1 ∧ Below w.heap.size w w' := by
  unfold wire_Append.f at h
  by_cases hn : 0 ≤ a1
  · rw [if_pos hn] at h
    by_cases hs : 1 ≤ a2 ∧ a2 ≤ 8
    · rw [if_pos hs] at h
      obtain ⟨s, rfl⟩ := Int.eq_ofNat_of_zero_le (show 0 ≤ a2 by omega)
      rw [Int.toNat_natCast] at h
      by_cases hr : (s : Int) < 8 ∧ a1 / 2 ^ (8 * s) ≠ 0
      · rw [if_pos hr] at h
        simp only [Option.some.injEq, Prod.mk.injEq] at h
        obtain ⟨rfl, rfl⟩ := h
        refine (app_range A0 c0 l0 a1 s w (by omega) (by omega) hr.2 hn).mono ?_
        rintro e w' ⟨rfl, rfl⟩
        exact ⟨_, rfl, Kd.R_nil _ _ _ _ _, Below.refl _ _⟩
      · rw [if_neg hr] at h
        by_cases hl : l0.length ≤ 140737488355000
        · rw [if_pos hl] at h
          simp only [Option.some.injEq, Prod.mk.injEq] at h
          obtain ⟨rfl, rfl⟩ := h
          refine (app_main A0 c0 l0 a1 s w hr0 (by omega) (by omega) (fun h8 => Decidable.byContradiction fun hz => hr ⟨by omega, hz⟩) hn hl).mono ?_
          rintro e w' ⟨v, rfl, ho, hb⟩
          refine ⟨v, rfl, Kd.R_of_own ?_ (fun _ _ => trivial), hb⟩
          rw [← appAt_all, appAt_length]; exact ho
        · rw [if_neg hl] at h; cases h
    · rw [if_neg hs] at h
      simp only [Option.some.injEq, Prod.mk.injEq] at h
      obtain ⟨rfl, rfl⟩ := h
      refine (app_bad A0 c0 l0 a1 a2 w hs).mono ?_
      rintro e w' ⟨rfl, rfl⟩
      exact ⟨_, rfl, Kd.R_nil _ _ _ _ _, Below.refl _ _⟩
  · rw [if_neg hn] at h; cases h
end Go.Proofs.Ythneihebdlppeaa.P
