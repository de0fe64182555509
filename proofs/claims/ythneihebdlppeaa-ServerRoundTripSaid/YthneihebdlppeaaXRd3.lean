/- The calls of a reader that make: Bytes, NewReader; and Skip, Left, Err. -/
import Derived.Test.YthneihebdlppeaaXRd2
import Derived.Test.YthneihebdlppeaaXApp
namespace Go.Proofs.Ythneihebdlppeaa.Rd
set_option linter.unusedVariables false
set_option linter.unusedSimpArgs false
open Go.RowKit Go.Proofs.YthneihebdlppeaaW.PrintWords Go.Proofs.YthneihebdlppeaaW.PrintLast Go.Proofs.YthneihebdlppeaaW.PrintMore
open Go.Proofs.Ythneihebdlppeaa.P (app_info made_one)

theorem src_of {w : World} {p : Option Addr} {n : Nat} {l : List Int} (h : Kd.C (Kd.int .u8) w p n l) (hp : 0 < n) : ∃ ad, p = some ad ∧ ∀ j v, (encs (Value.int .u8) l)[j]? = some v → w.cell? (ad.add j) = some v := by
  obtain ⟨_, _, hx⟩ := h
  obtain ⟨ad, ha, hh⟩ := hx hp
  refine ⟨ad, ha, fun j v hj => ?_⟩
  unfold encs at hj
  rw [List.getElem?_map] at hj
  obtain ⟨x, hx1, hx2⟩ := Option.map_eq_some_iff.1 hj
  obtain ⟨c, _, hK, hcell⟩ := hh j x hx1
  have hK : c = [Value.int .u8 x] := hK
  have := hcell 0 (Value.int .u8 x) (by rw [hK]; rfl)
  rw [← hx2]
  simpa [Kd.int, Kd.scalar] using this
theorem run_make_bytes (W : World) (n : Nat) (hn : n ≤ 140737488355000) : (Instr.makeSlice 48 (.int .i64 (n : Int)) (.int .i64 (n : Int))).run Try.prog W = .ok (.slice (some ⟨W.heap.size, 0, none⟩) n n) (W.alloc (.cells (madeCells #[.int .u8 0] n) 5)) := by
  obtain ⟨i0, hi, hz0, hz1, hz2⟩ := info_parts app_info
  have := run_make (P := Try.prog) W 48 5 i0 (.int .u8 0) Try.underlying48 hi hz0 .i64 .i64 (n : Int) (n : Int) (by omega) (by omega) (by rw [hz2]; omega) (by omega)
  rw [this, hz1, Int.toNat_natCast, Nat.mul_one]; rfl
theorem size_bytes : (Try.prog.info? 5).map (·.size) = some 1 := by
  obtain ⟨i0, hi, hz0, hz1, hz2⟩ := info_parts app_info
  rw [hi]; simp [hz1]
theorem splice_all (l : List Int) : splice (madeCells #[.int .u8 0] l.length).toList 0 (encs (Value.int .u8) l) = encs (Value.int .u8) l := by
  unfold splice
  rw [made_one]
  simp [encs]

/-- The copy law, with what it leaves alone. -/
theorem wpList_copy_upd {P : Program} {w : World} {ops : Array Oper} {rest : List Oper} {o : Oper} {a : Act} {Q : Exit → Act → World → Prop} (hgd : o.guard = none) (d s : Operand) (dT sT : TypeId)
    (ho : o.op = .call { callee := .builtin .copy, args := #[d, s], argTypes := #[dT, sT] }) (elem : TypeId) (hu : P.underlying dT = some (.slice elem)) (hsz : (P.info? elem).map (·.size) = some 1)
    (dp sp : Option Addr) (dLen dCap sLen sCap : Nat) (hd : a.eval d = .slice dp dLen dCap) (hs : a.eval s = .slice sp sLen sCap)
    (g off : Nat) (cur : List Value) (t : TypeId) (hg : w.heap[g]? = some (.cells cur.toArray t (0, 0))) (cs : List Value) (hn : cs.length = Nat.min sLen dLen)
    (hpos : 0 < cs.length → dp = some ⟨g, off, none⟩ ∧ ∃ ad, sp = some ad ∧ ∀ j v, cs[j]? = some v → w.cell? (ad.add j) = some v)
    (hfit : off + cs.length ≤ cur.length) (h1 : ∀ v ∈ cs, v.oneCell' = true)
    (h : ∀ w', Hid (w'.heap[g]? = some (.cells (splice cur off cs).toArray t (0, 0))) → Upd w w' g → wpList P ops Q rest (a.put o.dst (goInt cs.length)) w') :
    wpList P ops Q (o :: rest) a w := by
  by_cases h0 : cs.length = 0
  · obtain rfl : cs = [] := List.eq_nil_of_length_eq_zero h0
    refine wpList_copy_nothing hgd d s dT sT ho elem hu hsz dp sp dLen dCap sLen sCap hd hs (by simpa using hn.symm) ?_
    exact h w (show _ = _ by simpa [splice] using hg) (Upd.refl _ _)
  · obtain ⟨rfl, ad, rfl, hsrc⟩ := hpos (by omega)
    refine wpList_copy_own hgd d s dT sT ho elem hu hsz g off dLen dCap ad sLen sCap hd hs cur.toArray t hg cs hn hsrc (by simpa using hfit) h1 ?_
    exact h _ (show _ = _ by simpa [splice] using setRow_heap w g _ _ t _ hg) ⟨rfl, rfl, rfl, by simp, fun k _ hk => setRow_other w g k _ hk⟩

section
variable {w : World} {g b : Nat} {all rest : List Int} {err : Int} {p : Option Addr}
theorem At.below {w1 w2 : World} (h : At w1 g b all rest err p) {B : Nat} (hb : Below B w1 w2) (h1 : g < B) (h2 : b < B) : At w2 g b all rest err p :=
  ⟨(hb.block g h1).trans h.blk, (hb.block b h2).trans h.byt, h.ne, h.le, h.suf, h.ptr, h.big⟩
structure CopyFacts (w1 : World) (p : Option Addr) (n : Nat) (l : List Int) (c : Nat) : Prop where
  h0 : (w1.alloc (.cells (madeCells #[.int .u8 0] n) 5)).heap[w1.heap.size]? = some (.cells (madeCells #[.int .u8 0] n).toList.toArray 5 (0, 0))
  h1 : (encs (Value.int .u8) l).length = Nat.min n n
  h2 : 0 < (encs (Value.int .u8) l).length → (some (⟨w1.heap.size, 0, none⟩ : Addr)) = some ⟨w1.heap.size, 0, none⟩ ∧ ∃ ad, p = some ad ∧ ∀ j v, (encs (Value.int .u8) l)[j]? = some v → (w1.alloc (.cells (madeCells #[.int .u8 0] n) 5)).cell? (ad.add j) = some v
  h3 : 0 + (encs (Value.int .u8) l).length ≤ (madeCells #[.int .u8 0] n).toList.length
  h4 : ∀ v ∈ encs (Value.int .u8) l, v.oneCell' = true
  h5 : Below w1.heap.size w1 (w1.alloc (.cells (madeCells #[.int .u8 0] n) 5))
theorem copy_facts {w1 : World} {p : Option Addr} {n : Nat} {l : List Int} (hk : Kd.C (Kd.int .u8) w1 p n l) (hl : l.length = n) (hn : n ≤ 140737488355000) : CopyFacts w1 p n l 0 := by
  have e1 : (encs (Value.int .u8) l).length = n := by simp [encs, hl]
  refine ⟨?_, ?_, ?_, ?_, ?_, (Below.refl _ _).alloc (Nat.le_refl _) _⟩
  · rw [Array.toArray_toList]; exact heap_alloc_new w1 _
  · rw [e1]; exact (Nat.min_eq_left (Nat.le_refl _)).symm
  · intro hp
    rw [e1] at hp
    exact ⟨rfl, src_of (Kd.C_below hk ((Below.refl _ _).alloc (Nat.le_refl _) (.cells (madeCells #[.int .u8 0] n) 5))) hp⟩
  · rw [e1, Array.length_toList, size_madeCells]; omega
  · intro v hv
    obtain ⟨x, _, rfl⟩ := List.mem_map.1 hv
    rfl
set_option maxHeartbeats 2000000 in
theorem bytes_main (h : At w g b all rest 0 p) (n : Nat) (hn : n ≤ rest.length) :
    Calls Try.prog 48 #[.pointer (some ⟨g, 0, none⟩), .int .i64 n] w fun e w' => ∃ v, e = .returned v ∧ w'.ownsRow w.heap.size 5 1 v n (encs (Value.int .u8) (rest.take n)) ∧ Went w g b all (rest.drop n, 0) w' := by
  have hgs := lt_of_blk h.blk
  have hbs := lt_of_blk h.byt
  have hbig : n ≤ 140737488355000 := by have := h.le; have := h.big; omega
  have hln : (rest.take n).length = n := by rw [List.length_take]; omega
  have HT : Hid (Calls Try.prog 57 #[.pointer (some ⟨g, 0, none⟩), .int .i64 n, .bool true] w fun e w' => e = .returned (.tuple #[.slice p n rest.length, .bool true]) ∧ Went w g b all (rest.drop n, 0) w' ∧ Kd.C (Kd.int .u8) w' p n (rest.take n)) := by
    show Calls _ _ _ _ _
    refine (take_some h n hn).mono ?_
    rintro e w' ⟨rfl, p', ha, hu⟩
    exact ⟨rfl, ⟨⟨p', ha⟩, hu⟩, reads_of ha.byt h n hn⟩
  have hmk := run_make_bytes
  have hsz := size_bytes
  clear h
  go_enter Try.func48, Try.ntmps48
  go_wp2_with (first
    | ((with_reducible refine gate_callee (f := 57) rfl ?_); refine goesL_ _ rfl rfl Try.func57 (by kernel_rfl) rfl #[.pointer (some ⟨g, 0, none⟩), .int .i64 n, .bool true] rfl (by (try simp only [List.map_toArray, List.map_cons, List.map_nil]); first | done | rfl) ?_; refine HT.out.mono ?_; rintro e w1 ⟨rfl, hw, hk⟩; refine ⟨_, rfl, ?_⟩; have HW := Lib.hid hw; have HF := Lib.hid (copy_facts hk hln hbig); clear hw hk)
    | ((with_reducible refine gate_dst (N := 22) rfl ?_); go_loud (refine wpList_copy_splice rfl (.tmp 20) (.tmp 21) 48 48 rfl 5 Try.underlying48 hsz _ _ _ _ _ _ rfl rfl w1.heap.size 0 _ 5 HF.out.h0 (encs (Value.int .u8) (rest.take n)) HF.out.h1 HF.out.h2 HF.out.h3 HF.out.h4 w1.heap.size w1 HF.out.h5 (Nat.le_refl _) ?_); intro w2 hg2 hb2; have HG := Lib.hid hg2.out; have HB := Lib.hid hb2; clear hg2 hb2)
    | go_in)
  go_ret
  obtain ⟨⟨p', ha⟩, hu⟩ := HW.out
  have hs := hu.size
  have hg2 := HG.out
  have e1 : splice (madeCells #[.int .u8 0] n).toList 0 (encs (Value.int .u8) (rest.take n)) = encs (Value.int .u8) (rest.take n) := by
    have := splice_all (rest.take n)
    rw [hln] at this; exact this
  rw [e1] at hg2
  refine ⟨_, rfl, ⟨by simp [encs]; omega, .inr ⟨w1.heap.size, n, _, rfl, hs, hg2, Nat.le_refl _, by unfold maxLen; omega, by simp [encs]; omega, ?_⟩⟩, ⟨p', ha.below HB.out (by omega) (by omega)⟩, hu.trans (Upd.of_below HB.out g)⟩
  rw [List.take_of_length_le (by simp [encs]; omega)]
theorem bytes_none (h : At w g b all rest err p) (n : Int) (hx : (takeS rest err n (decide (0 ≤ n))).1 = none) :
    Calls Try.prog 48 #[.pointer (some ⟨g, 0, none⟩), .int .i64 n] w fun e w' => e = .returned (.slice none 0 0) ∧ Went w g b all (takeS rest err n (decide (0 ≤ n))).2 w' := by
  rcases take_any h n (decide (0 ≤ n)) (fun h => by simpa using h) with ⟨l, r, e', he, hc⟩ | ⟨r, e', he, hc⟩
  · rw [he] at hx; cases hx
  · have HS : Hid ((takeS rest err n (decide (0 ≤ n))).2 = (r, e')) := by show _ = _; rw [he]
    have H := Lib.hid h
    have HT : Hid (Calls Try.prog 57 #[.pointer (some ⟨g, 0, none⟩), .int .i64 n, .bool (decide (0 ≤ n))] w fun e w' => e = .returned (.tuple #[.slice none 0 0, .bool false]) ∧ Went w g b all (takeS rest err n (decide (0 ≤ n))).2 w') := by
      show Calls _ _ _ _ _
      rw [HS.out]; exact hc
    clear hc h he hx HS
    go_enter Try.func48, Try.ntmps48
    go_wp2_with (first
      | ((with_reducible refine gate_callee (f := 57) rfl ?_); refine goesL_ _ rfl rfl Try.func57 (by kernel_rfl) rfl #[.pointer (some ⟨g, 0, none⟩), .int .i64 n, .bool (decide (0 ≤ n))] rfl (by (try simp only [List.map_toArray, List.map_cons, List.map_nil]); first | done | rfl) ?_; refine HT.out.mono ?_; rintro e w1 ⟨rfl, hw⟩; refine ⟨_, rfl, ?_⟩; have HW := Lib.hid hw; clear hw)
      | go_in)
    go_ret
    exact ⟨rfl, HW.out⟩
theorem bytes_any (h : At w g b all rest err p) (n : Int) :
    Calls Try.prog 48 #[.pointer (some ⟨g, 0, none⟩), .int .i64 n] w fun e w' => ∃ v, e = .returned v ∧ w'.ownsRow w.heap.size 5 1 v (bytesS rest err n).1.length (encs (Value.int .u8) (bytesS rest err n).1) ∧ Went w g b all (bytesS rest err n).2 w' := by
  unfold bytesS
  cases hx : takeS rest err n (decide (0 ≤ n)) with
  | mk o s =>
    obtain ⟨r, e'⟩ := s
    cases o with
    | none =>
      refine (bytes_none h n (by rw [hx])).mono ?_
      rintro e w' ⟨rfl, hw⟩
      rw [hx] at hw
      exact ⟨_, rfl, ⟨rfl, .inl ⟨rfl, rfl⟩⟩, hw⟩
    | some l =>
      have hy := hx
      unfold takeS at hy
      split at hy
      · cases hy
      · rename_i he
        split at hy
        · cases hy
        · rename_i hok
          split at hy
          · cases hy
          · rename_i hsh
            have h0 : 0 ≤ n := by simpa using hok
            obtain rfl : err = 0 := Decidable.of_not_not he
            obtain ⟨m, rfl⟩ := Int.eq_ofNat_of_zero_le h0
            rw [Int.toNat_natCast] at hy
            obtain ⟨rfl, rfl, rfl⟩ : rest.take m = l ∧ rest.drop m = r ∧ 0 = e' := by
              injection hy with h1 h2
              injection h1 with h1
              injection h2 with h2 h3
              exact ⟨h1, h2, h3⟩
            refine (bytes_main h m (by omega)).mono ?_
            rintro e w' ⟨v, rfl, ho, hw⟩
            have hl : (rest.take m).length = m := by rw [List.length_take]; omega
            exact ⟨v, rfl, by rw [hl]; exact ho, hw⟩
theorem left_any (h : At w g b all rest err p) :
    Calls Try.prog 49 #[.pointer (some ⟨g, 0, none⟩)] w fun e w' => e = .returned (.int .i64 rest.length) ∧ w' = w := by
  have c0 := h.cell0
  clear h
  go_enter Try.func49, Try.ntmps49
  go_wp2
  go_ret
  exact ⟨rfl, rfl⟩
/-- What NewReader answers. -/
def NewPost (w : World) (l : List Int) (e : Ending) (w' : World) : Prop := ∃ g b p, e = .returned (.pointer (some ⟨g, 0, none⟩)) ∧ w.heap.size ≤ g ∧ w.heap.size ≤ b ∧ At w' g b l l 0 p ∧ Below w.heap.size w w'
set_option maxHeartbeats 2000000 in
theorem new_reader {A : Option Addr} {c : Nat} {l : List Int} (hr : Kd.C (Kd.int .u8) w A l.length l) (hc : l.length ≤ c) (hb : l.length ≤ 140737488355000) :
    Calls Try.prog 44 #[.slice A l.length c] w fun e w' => NewPost w l e w' := by
  have hmk := run_make_bytes
  have hsz := size_bytes
  have HR := Lib.hid hr
  clear hr
  have hs1 : (w.alloc (.cells (madeCells #[.int .u8 0] l.length) 5)).heap.size = w.heap.size + 1 := Array.size_push ..
  have F := copy_facts HR.out rfl hb
  have hb1 := F.h5
  have hb2 := hb1.alloc (by rw [hs1]; omega) (.cells #[.slice (some ⟨w.heap.size, 0, none⟩) l.length l.length, .int .i64 0] 98)
  have hb3 : Below (w.heap.size + 1) (w.alloc (.cells (madeCells #[.int .u8 0] l.length) 5)) ((w.alloc (.cells (madeCells #[.int .u8 0] l.length) 5)).alloc (.cells #[.slice (some ⟨w.heap.size, 0, none⟩) l.length l.length, .int .i64 0] 98)) := (Below.refl _ _).alloc (by rw [hs1]; omega) _
  have HN : Hid (((w.alloc (.cells (madeCells #[.int .u8 0] l.length) 5)).alloc (.cells #[.slice (some ⟨w.heap.size, 0, none⟩) l.length l.length, .int .i64 0] 98)).heap[w.heap.size + 1]? = some (.cells #[.slice (some ⟨w.heap.size, 0, none⟩) l.length l.length, .int .i64 0] 98 (0, 0))) := by
    show _ = _
    rw [← hs1]; exact heap_alloc_new _ _
  have H0 : Hid (((w.alloc (.cells (madeCells #[.int .u8 0] l.length) 5)).alloc (.cells #[.slice (some ⟨w.heap.size, 0, none⟩) l.length l.length, .int .i64 0] 98)).heap[w.heap.size]? = some (.cells (madeCells #[.int .u8 0] l.length).toList.toArray 5 (0, 0))) := by
    show _ = _
    rw [hb3.block _ (by omega)]; exact F.h0
  have H2 : Hid (0 < (encs (Value.int .u8) l).length → (some (⟨w.heap.size, 0, none⟩ : Addr)) = some ⟨w.heap.size, 0, none⟩ ∧ ∃ ad, A = some ad ∧ ∀ j v, (encs (Value.int .u8) l)[j]? = some v → ((w.alloc (.cells (madeCells #[.int .u8 0] l.length) 5)).alloc (.cells #[.slice (some ⟨w.heap.size, 0, none⟩) l.length l.length, .int .i64 0] 98)).cell? (ad.add j) = some v) := by
    show _ → _
    intro hp
    exact ⟨rfl, src_of (Kd.C_below HR.out hb2) (by rw [encs, List.length_map] at hp; exact hp)⟩
  have HF := Lib.hid F
  have HB := Lib.hid hb2
  clear F hb1 hb2 hb3 hs1
  go_enter Try.func44, Try.ntmps44
  go_wp2_with (first
    | ((with_reducible refine gate_dst (N := 14) rfl ?_); go_loud (refine wpList_copy_upd rfl (.tmp 12) (.tmp 13) 48 48 rfl 5 Try.underlying48 hsz _ _ _ _ _ _ rfl rfl w.heap.size 0 _ 5 H0.out (encs (Value.int .u8) l) HF.out.h1 H2.out HF.out.h3 HF.out.h4 ?_); intro w2 hg2 hu2; have HG := Lib.hid hg2.out; have HU := Lib.hid hu2; clear hg2 hu2)
    | go_in)
  go_ret
  have hg2 := HG.out
  rw [splice_all] at hg2
  have hn2 := (HU.out.block _ (lt_of_blk HN.out) (by omega)).trans HN.out
  refine ⟨w.heap.size + 1, w.heap.size, some ⟨w.heap.size, 0, none⟩, rfl, by omega, Nat.le_refl _, ⟨hn2, hg2, by omega, Nat.le_refl _, by simp, fun _ => by simp, hb⟩, HU.out.below HB.out (Nat.le_refl _) ?_⟩
  exact HB.out.size
end
end Go.Proofs.Ythneihebdlppeaa.Rd
