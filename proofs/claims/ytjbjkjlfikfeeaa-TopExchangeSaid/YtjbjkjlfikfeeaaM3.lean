/- Texts of this claim, laid together: each says itself what it proves. -/
import Derived.Test.YtjbjkjlfikfeeaaM2
import Derived.Test.YtjbjkjlfikfeeaaM1
/- The calls of a reader that make: Bytes, NewReader; and Skip, Left, Err. -/
namespace Go.Proofs.Ytjbjkjlfikfeeaa.Rd
set_option linter.unusedVariables false
set_option linter.unusedSimpArgs false
open Go.RowKit Go.Proofs.YtjbjkjlfikfeeaaW.PrintWords Go.Proofs.YtjbjkjlfikfeeaaW.PrintLast Go.Proofs.YtjbjkjlfikfeeaaW.PrintMore
open Go.Proofs.Ytjbjkjlfikfeeaa.P (app_info made_one)

theorem src_of {w : World} {p : Option Addr} {n : Nat} {l : List Int} (h : Kd.C (Kd.int .u8) w p n l) (hp : 0 < n) : ∃ ad, p = some ad ∧ ∀ j v, (encs (Value.int .u8) l)[j]? = some v → w.cell? (ad.add j) = some v := by
  obtain ⟨_, _, hx⟩ := h
  obtain ⟨ad, ha, hh⟩ := hx hp
  refine ⟨ad, ha, fun j v hj => ?_⟩
  unfold encs at hj
  rw [List.getElem?_map] at hj
  obtain ⟨x, hx1, hx2⟩ := Option.map_eq_some_iff.1 hj
  obtain ⟨c, _, hK, hcell⟩ := hh j x hx1
  have hK : c = [Value.int .u8 x] := hK
  have := hcell 0 (Value.int .u8 x) (by rw [hK]; rfl)
  rw [← hx2]
  simpa [Kd.int, Kd.scalar] using this
theorem run_make_bytes (W : World) (n : Nat) (hn : n ≤ 140737488355000) : (Instr.makeSlice 53 (.int .i64 (n : Int)) (.int .i64 (n : Int))).run Try.prog W = .ok (.slice (some ⟨W.heap.size, 0, none⟩) n n) (W.alloc (.cells (madeCells #[.int .u8 0] n) 5)) := by
  obtain ⟨i0, hi, hz0, hz1, hz2⟩ := info_parts app_info
  have := run_make (P := Try.prog) W 53 5 i0 (.int .u8 0) Try.underlying53 hi hz0 .i64 .i64 (n : Int) (n : Int) (by omega) (by omega) (by rw [hz2]; omega) (by omega)
  rw [this, hz1, Int.toNat_natCast, Nat.mul_one]; rfl
theorem size_bytes : (Try.prog.info? 5).map (·.size) = some 1 := by
  obtain ⟨i0, hi, hz0, hz1, hz2⟩ := info_parts app_info
  rw [hi]; simp [hz1]
theorem splice_all (l : List Int) : splice (madeCells #[.int .u8 0] l.length).toList 0 (encs (Value.int .u8) l) = encs (Value.int .u8) l := by
  unfold splice
  rw [made_one]
  simp [encs]

/-- The copy law, with what it leaves alone. -/
theorem wpList_copy_upd {P : Program} {w : World} {ops : Array Oper} {rest : List Oper} {o : Oper} {a : Act} {Q : Exit → Act → World → Prop} (hgd : o.guard = none) (d s : Operand) (dT sT : TypeId)
    (ho : o.op = .call { callee := .builtin .copy, args := #[d, s], argTypes := #[dT, sT] }) (elem : TypeId) (hu : P.underlying dT = some (.slice elem)) (hsz : (P.info? elem).map (·.size) = some 1)
    (dp sp : Option Addr) (dLen dCap sLen sCap : Nat) (hd : a.eval d = .slice dp dLen dCap) (hs : a.eval s = .slice sp sLen sCap)
    (g off : Nat) (cur : List Value) (t : TypeId) (hg : w.heap[g]? = some (.cells cur.toArray t (0, 0))) (cs : List Value) (hn : cs.length = Nat.min sLen dLen)
    (hpos : 0 < cs.length → dp = some ⟨g, off, none⟩ ∧ ∃ ad, sp = some ad ∧ ∀ j v, cs[j]? = some v → w.cell? (ad.add j) = some v)
    (hfit : off + cs.length ≤ cur.length) (h1 : ∀ v ∈ cs, v.oneCell' = true)
    (h : ∀ w', Hid (w'.heap[g]? = some (.cells (splice cur off cs).toArray t (0, 0))) → Upd w w' g → wpList P ops Q rest (a.put o.dst (goInt cs.length)) w') :
    wpList P ops Q (o :: rest) a w := by
  by_cases h0 : cs.length = 0
  · obtain rfl : cs = [] := List.eq_nil_of_length_eq_zero h0
    refine wpList_copy_nothing hgd d s dT sT ho elem hu hsz dp sp dLen dCap sLen sCap hd hs (by simpa using hn.symm) ?_
    exact h w (show _ = _ by simpa [splice] using hg) (Upd.refl _ _)
  · obtain ⟨rfl, ad, rfl, hsrc⟩ := hpos (by omega)
    refine wpList_copy_own hgd d s dT sT ho elem hu hsz g off dLen dCap ad sLen sCap hd hs cur.toArray t hg cs hn hsrc (by simpa using hfit) h1 ?_
    exact h _ (show _ = _ by simpa [splice] using setRow_heap w g _ _ t _ hg) ⟨rfl, rfl, rfl, by simp, fun k _ hk => setRow_other w g k _ hk⟩

section
variable {w : World} {g b : Nat} {all rest : List Int} {err : Int} {p : Option Addr}
theorem At.below {w1 w2 : World} (h : At w1 g b all rest err p) {B : Nat} (hb : Below B w1 w2) (h1 : g < B) (h2 : b < B) : At w2 g b all rest err p :=
  ⟨(hb.block g h1).trans h.blk, (hb.block b h2).trans h.byt, h.ne, h.le, h.suf, h.ptr, h.big⟩
structure CopyFacts (w1 : World) (p : Option Addr) (n : Nat) (l : List Int) (c : Nat) : Prop where
  h0 : (w1.alloc (.cells (madeCells #[.int .u8 0] n) 5)).heap[w1.heap.size]? = some (.cells (madeCells #[.int .u8 0] n).toList.toArray 5 (0, 0))
  h1 : (encs (Value.int .u8) l).length = Nat.min n n
  h2 : 0 < (encs (Value.int .u8) l).length → (some (⟨w1.heap.size, 0, none⟩ : Addr)) = some ⟨w1.heap.size, 0, none⟩ ∧ ∃ ad, p = some ad ∧ ∀ j v, (encs (Value.int .u8) l)[j]? = some v → (w1.alloc (.cells (madeCells #[.int .u8 0] n) 5)).cell? (ad.add j) = some v
  h3 : 0 + (encs (Value.int .u8) l).length ≤ (madeCells #[.int .u8 0] n).toList.length
  h4 : ∀ v ∈ encs (Value.int .u8) l, v.oneCell' = true
  h5 : Below w1.heap.size w1 (w1.alloc (.cells (madeCells #[.int .u8 0] n) 5))
theorem copy_facts {w1 : World} {p : Option Addr} {n : Nat} {l : List Int} (hk : Kd.C (Kd.int .u8) w1 p n l) (hl : l.length = n) (hn : n ≤ 140737488355000) : CopyFacts w1 p n l 0 := by
  have e1 : (encs (Value.int .u8) l).length = n := by simp [encs, hl]
  refine ⟨?_, ?_, ?_, ?_, ?_, (Below.refl _ _).alloc (Nat.le_refl _) _⟩
  · rw [Array.toArray_toList]; exact heap_alloc_new w1 _
  · rw [e1]; exact (Nat.min_eq_left (Nat.le_refl _)).symm
  · intro hp
    rw [e1] at hp
    exact ⟨rfl, src_of (Kd.C_below hk ((Below.refl _ _).alloc (Nat.le_refl _) (.cells (madeCells #[.int .u8 0] n) 5))) hp⟩
  · rw [e1, Array.length_toList, size_madeCells]; omega
  · intro v hv
    obtain ⟨x, _, rfl⟩ := List.mem_map.1 hv
    rfl
set_option maxHeartbeats 2000000 in
theorem bytes_main (h : At w g b all rest 0 p) (n : Nat) (hn : n ≤ rest.length) :
    Calls Try.prog 42 #[.pointer (some ⟨g, 0, none⟩), .int .i64 n] w fun e w' => ∃ v, e = .returned v ∧ w'.ownsRow w.heap.size 5 1 v n (encs (Value.int .u8) (rest.take n)) ∧ Went w g b all (rest.drop n, 0) w' := by
  have hgs := lt_of_blk h.blk
  have hbs := lt_of_blk h.byt
  have hbig : n ≤ 140737488355000 := by have := h.le; have := h.big; omega
  have hln : (rest.take n).length = n := by rw [List.length_take]; omega
  have HT : Hid (Calls Try.prog 64 #[.pointer (some ⟨g, 0, none⟩), .int .i64 n, .bool true] w fun e w' => e = .returned (.tuple #[.slice p n rest.length, .bool true]) ∧ Went w g b all (rest.drop n, 0) w' ∧ Kd.C (Kd.int .u8) w' p n (rest.take n)) := by
    show Calls _ _ _ _ _
    refine (take_some h n hn).mono ?_
    rintro e w' ⟨rfl, p', ha, hu⟩
    exact ⟨rfl, ⟨⟨p', ha⟩, hu⟩, reads_of ha.byt h n hn⟩
  have hmk := run_make_bytes
  have hsz := size_bytes
  clear h
  go_enter Try.func42, Try.ntmps42
  go_wp2_with (first
    | ((with_reducible refine gate_callee (f := 64) rfl ?_); refine goesL_ _ rfl rfl Try.func64 (by kernel_rfl) rfl #[.pointer (some ⟨g, 0, none⟩), .int .i64 n, .bool true] rfl (by (try simp only [List.map_toArray, List.map_cons, List.map_nil]); first | done | rfl) ?_; refine HT.out.mono ?_; rintro e w1 ⟨rfl, hw, hk⟩; refine ⟨_, rfl, ?_⟩; have HW := Lib.hid hw; have HF := Lib.hid (copy_facts hk hln hbig); clear hw hk)
    | ((with_reducible refine gate_dst (N := 22) rfl ?_); go_loud (refine wpList_copy_splice rfl (.tmp 20) (.tmp 21) 53 53 rfl 5 Try.underlying53 hsz _ _ _ _ _ _ rfl rfl w1.heap.size 0 _ 5 HF.out.h0 (encs (Value.int .u8) (rest.take n)) HF.out.h1 HF.out.h2 HF.out.h3 HF.out.h4 w1.heap.size w1 HF.out.h5 (Nat.le_refl _) ?_); intro w2 hg2 hb2; have HG := Lib.hid hg2.out; have HB := Lib.hid hb2; clear hg2 hb2)
    | go_in)
  go_ret
  obtain ⟨⟨p', ha⟩, hu⟩ := HW.out
  have hs := hu.size
  have hg2 := HG.out
  have e1 : splice (madeCells #[.int .u8 0] n).toList 0 (encs (Value.int .u8) (rest.take n)) = encs (Value.int .u8) (rest.take n) := by
    have := splice_all (rest.take n)
    rw [hln] at this; exact this
  rw [e1] at hg2
  refine ⟨_, rfl, ⟨by simp [encs]; omega, .inr ⟨w1.heap.size, n, _, rfl, hs, hg2, Nat.le_refl _, by unfold maxLen; omega, by simp [encs]; omega, ?_⟩⟩, ⟨p', ha.below HB.out (by omega) (by omega)⟩, hu.trans (Upd.of_below HB.out g)⟩
  rw [List.take_of_length_le (by simp [encs]; omega)]
theorem bytes_none (h : At w g b all rest err p) (n : Int) (hx : (takeS rest err n (decide (0 ≤ n))).1 = none) :
    Calls Try.prog 42 #[.pointer (some ⟨g, 0, none⟩), .int .i64 n] w fun e w' => e = .returned (.slice none 0 0) ∧ Went w g b all (takeS rest err n (decide (0 ≤ n))).2 w' := by
  rcases take_any h n (decide (0 ≤ n)) (fun h => by simpa using h) with ⟨l, r, e', he, hc⟩ | ⟨r, e', he, hc⟩
  · rw [he] at hx; cases hx
  · have HS : Hid ((takeS rest err n (decide (0 ≤ n))).2 = (r, e')) := by show _ = _; rw [he]
    have H := Lib.hid h
    have HT : Hid (Calls Try.prog 64 #[.pointer (some ⟨g, 0, none⟩), .int .i64 n, .bool (decide (0 ≤ n))] w fun e w' => e = .returned (.tuple #[.slice none 0 0, .bool false]) ∧ Went w g b all (takeS rest err n (decide (0 ≤ n))).2 w') := by
      show Calls _ _ _ _ _
      rw [HS.out]; exact hc
    clear hc h he hx HS
    go_enter Try.func42, Try.ntmps42
    go_wp2_with (first
      | ((with_reducible refine gate_callee (f := 64) rfl ?_); refine goesL_ _ rfl rfl Try.func64 (by kernel_rfl) rfl #[.pointer (some ⟨g, 0, none⟩), .int .i64 n, .bool (decide (0 ≤ n))] rfl (by (try simp only [List.map_toArray, List.map_cons, List.map_nil]); first | done | rfl) ?_; refine HT.out.mono ?_; rintro e w1 ⟨rfl, hw⟩; refine ⟨_, rfl, ?_⟩; have HW := Lib.hid hw; clear hw)
      | go_in)
    go_ret
    exact ⟨rfl, HW.out⟩
theorem bytes_any (h : At w g b all rest err p) (n : Int) :
    Calls Try.prog 42 #[.pointer (some ⟨g, 0, none⟩), .int .i64 n] w fun e w' => ∃ v, e = .returned v ∧ w'.ownsRow w.heap.size 5 1 v (bytesS rest err n).1.length (encs (Value.int .u8) (bytesS rest err n).1) ∧ Went w g b all (bytesS rest err n).2 w' := by
  unfold bytesS
  cases hx : takeS rest err n (decide (0 ≤ n)) with
  | mk o s =>
    obtain ⟨r, e'⟩ := s
    cases o with
    | none =>
      refine (bytes_none h n (by rw [hx])).mono ?_
      rintro e w' ⟨rfl, hw⟩
      rw [hx] at hw
      exact ⟨_, rfl, ⟨rfl, .inl ⟨rfl, rfl⟩⟩, hw⟩
    | some l =>
      have hy := hx
      unfold takeS at hy
      split at hy
      · cases hy
      · rename_i he
        split at hy
        · cases hy
        · rename_i hok
          split at hy
          · cases hy
          · rename_i hsh
            have h0 : 0 ≤ n := by simpa using hok
            obtain rfl : err = 0 := Decidable.of_not_not he
            obtain ⟨m, rfl⟩ := Int.eq_ofNat_of_zero_le h0
            rw [Int.toNat_natCast] at hy
            obtain ⟨rfl, rfl, rfl⟩ : rest.take m = l ∧ rest.drop m = r ∧ 0 = e' := by
              injection hy with h1 h2
              injection h1 with h1
              injection h2 with h2 h3
              exact ⟨h1, h2, h3⟩
            refine (bytes_main h m (by omega)).mono ?_
            rintro e w' ⟨v, rfl, ho, hw⟩
            have hl : (rest.take m).length = m := by rw [List.length_take]; omega
            exact ⟨v, rfl, by rw [hl]; exact ho, hw⟩
theorem left_any (h : At w g b all rest err p) :
    Calls Try.prog 43 #[.pointer (some ⟨g, 0, none⟩)] w fun e w' => e = .returned (.int .i64 rest.length) ∧ w' = w := by
  have c0 := h.cell0
  clear h
  go_enter Try.func43, Try.ntmps43
  go_wp2
  go_ret
  exact ⟨rfl, rfl⟩
/-- What NewReader answers. -/
def NewPost (w : World) (l : List Int) (e : Ending) (w' : World) : Prop := ∃ g b p, e = .returned (.pointer (some ⟨g, 0, none⟩)) ∧ w.heap.size ≤ g ∧ w.heap.size ≤ b ∧ At w' g b l l 0 p ∧ Below w.heap.size w w'
set_option maxHeartbeats 2000000 in
theorem new_reader {A : Option Addr} {c : Nat} {l : List Int} (hr : Kd.C (Kd.int .u8) w A l.length l) (hc : l.length ≤ c) (hb : l.length ≤ 140737488355000) :
    Calls Try.prog 39 #[.slice A l.length c] w fun e w' => NewPost w l e w' := by
  have hmk := run_make_bytes
  have hsz := size_bytes
  have HR := Lib.hid hr
  clear hr
  have hs1 : (w.alloc (.cells (madeCells #[.int .u8 0] l.length) 5)).heap.size = w.heap.size + 1 := Array.size_push ..
  have F := copy_facts HR.out rfl hb
  have hb1 := F.h5
  have hb2 := hb1.alloc (by rw [hs1]; omega) (.cells #[.slice (some ⟨w.heap.size, 0, none⟩) l.length l.length, .int .i64 0] 139)
  have hb3 : Below (w.heap.size + 1) (w.alloc (.cells (madeCells #[.int .u8 0] l.length) 5)) ((w.alloc (.cells (madeCells #[.int .u8 0] l.length) 5)).alloc (.cells #[.slice (some ⟨w.heap.size, 0, none⟩) l.length l.length, .int .i64 0] 139)) := (Below.refl _ _).alloc (by rw [hs1]; omega) _
  have HN : Hid (((w.alloc (.cells (madeCells #[.int .u8 0] l.length) 5)).alloc (.cells #[.slice (some ⟨w.heap.size, 0, none⟩) l.length l.length, .int .i64 0] 139)).heap[w.heap.size + 1]? = some (.cells #[.slice (some ⟨w.heap.size, 0, none⟩) l.length l.length, .int .i64 0] 139 (0, 0))) := by
    show _ = _
    rw [← hs1]; exact heap_alloc_new _ _
  have H0 : Hid (((w.alloc (.cells (madeCells #[.int .u8 0] l.length) 5)).alloc (.cells #[.slice (some ⟨w.heap.size, 0, none⟩) l.length l.length, .int .i64 0] 139)).heap[w.heap.size]? = some (.cells (madeCells #[.int .u8 0] l.length).toList.toArray 5 (0, 0))) := by
    show _ = _
    rw [hb3.block _ (by omega)]; exact F.h0
  have H2 : Hid (0 < (encs (Value.int .u8) l).length → (some (⟨w.heap.size, 0, none⟩ : Addr)) = some ⟨w.heap.size, 0, none⟩ ∧ ∃ ad, A = some ad ∧ ∀ j v, (encs (Value.int .u8) l)[j]? = some v → ((w.alloc (.cells (madeCells #[.int .u8 0] l.length) 5)).alloc (.cells #[.slice (some ⟨w.heap.size, 0, none⟩) l.length l.length, .int .i64 0] 139)).cell? (ad.add j) = some v) := by
    show _ → _
    intro hp
    exact ⟨rfl, src_of (Kd.C_below HR.out hb2) (by rw [encs, List.length_map] at hp; exact hp)⟩
  have HF := Lib.hid F
  have HB := Lib.hid hb2
  clear F hb1 hb2 hb3 hs1
  go_enter Try.func39, Try.ntmps39
  go_wp2_with (first
    | ((with_reducible refine gate_dst (N := 14) rfl ?_); go_loud (refine wpList_copy_upd rfl (.tmp 12) (.tmp 13) 53 53 rfl 5 Try.underlying53 hsz _ _ _ _ _ _ rfl rfl w.heap.size 0 _ 5 H0.out (encs (Value.int .u8) l) HF.out.h1 H2.out HF.out.h3 HF.out.h4 ?_); intro w2 hg2 hu2; have HG := Lib.hid hg2.out; have HU := Lib.hid hu2; clear hg2 hu2)
    | go_in)
  go_ret
  have hg2 := HG.out
  rw [splice_all] at hg2
  have hn2 := (HU.out.block _ (lt_of_blk HN.out) (by omega)).trans HN.out
  refine ⟨w.heap.size + 1, w.heap.size, some ⟨w.heap.size, 0, none⟩, rfl, by omega, Nat.le_refl _, ⟨hn2, hg2, by omega, Nat.le_refl _, by simp, fun _ => by simp, hb⟩, HU.out.below HB.out (Nat.le_refl _) ?_⟩
  exact HB.out.size
end
end Go.Proofs.Ytjbjkjlfikfeeaa.Rd
/- A reader and a struct's cell beside it, as decoders hold them. -/
namespace Go.Proofs.Ytjbjkjlfikfeeaa.Rd
set_option linter.unusedVariables false
open Go.RowKit Go.Proofs.YtjbjkjlfikfeeaaW.PrintWords Go.Proofs.YtjbjkjlfikfeeaaW.PrintLast Go.Proofs.YtjbjkjlfikfeeaaW.PrintMore

instance (l : List Int) : Decidable (bytesOk l) := by unfold bytesOk; infer_instance
/-- A reader at g over the bytes of block b that stands at k without an error, in what has turned above w0 alone. -/
structure Rdr (w0 w : World) (g b : Nat) (all : List Int) (k : Nat) : Prop where
  at' : ∃ p, At w g b all (all.drop k) 0 p
  g0 : w0.heap.size ≤ g
  b0 : w0.heap.size ≤ b
  low : Below w0.heap.size w0 w
  ok : bytesOk all
/-- A block of cells. -/
def Blk (w : World) (q : Nat) (cs : List Value) (t : TypeId) : Prop := w.heap[q]? = some (.cells cs.toArray t (0, 0))
section
variable {w0 w : World} {g b k : Nat} {all : List Int}
theorem Rdr.new {A : Option Addr} {c : Nat} {l : List Int} (hr : Kd.C (Kd.int .u8) w A l.length l) (hc : l.length ≤ c) (hb : l.length ≤ 140737488355000) (hk : bytesOk l) (hw : Below w0.heap.size w0 w) :
    Calls Try.prog 39 #[.slice A l.length c] w fun e w' => ∃ g, e = .returned (.pointer (some ⟨g, 0, none⟩)) ∧ (∃ b, Rdr w0 w' g b l 0 ∧ w.heap.size ≤ b) ∧ Below w.heap.size w w' ∧ w.heap.size ≤ g := by
  refine (new_reader hr hc hb).mono ?_
  rintro e w' ⟨g, b, p, rfl, hg, hb', ha, hl⟩
  have := hw.size
  refine ⟨g, rfl, ⟨b, ⟨⟨p, ha⟩, by omega, by omega, ?_, hk⟩, hb'⟩, hl, hg⟩
  exact below_step hw hl
theorem Rdr.went (h : Rdr w0 w g b all k) {s : List Int × Int} {w' : World} (hw : Went w g b all s w') (k' : Nat) (hs : s = (all.drop k', 0)) : Rdr w0 w' g b all k' := by
  subst hs
  obtain ⟨⟨p', ha⟩, hu⟩ := hw
  exact ⟨⟨p', ha⟩, h.g0, h.b0, hu.below h.low h.g0 h.low.size, h.ok⟩
theorem takeS_ok (l : List Int) (k n : Nat) (h : k + n ≤ l.length) : takeS (l.drop k) 0 n true = (some ((l.drop k).take n), l.drop (k + n), 0) := by
  unfold takeS
  rw [if_neg (by omega), if_neg (by simp), if_neg (by rw [List.length_drop]; omega), Int.toNat_natCast, List.drop_drop]
theorem Rdr.uint (h : Rdr w0 w g b all k) (n : Nat) (h1 : 1 ≤ n) (h8 : n ≤ 8) (hl : k + n ≤ all.length) :
    Calls Try.prog 40 #[.pointer (some ⟨g, 0, none⟩), .int .i64 n] w fun e w' => e = .returned (.int .u64 (acc ((all.drop k).take n) n)) ∧ Rdr w0 w' g b all (k + n) ∧ Upd w w' g := by
  obtain ⟨p, ha⟩ := h.at'
  refine (uint_any ha h.ok n).mono ?_
  have e1 : uintS (all.drop k) 0 n = (acc ((all.drop k).take n) n, all.drop (k + n), 0) := by
    unfold uintS
    rw [show rightS n = true from decide_eq_true (by omega), takeS_ok _ _ _ hl, Int.toNat_natCast]
  rw [e1]
  rintro e w' ⟨rfl, hw⟩
  exact ⟨rfl, h.went hw _ rfl, hw.2⟩
theorem Rdr.int (h : Rdr w0 w g b all k) (n : Nat) (h1 : 1 ≤ n) (h8 : n ≤ 8) (hl : k + n ≤ all.length) :
    Calls Try.prog 41 #[.pointer (some ⟨g, 0, none⟩), .int .i64 n] w fun e w' => e = .returned (.int .i64 (upDown (acc ((all.drop k).take n) n) n)) ∧ Rdr w0 w' g b all (k + n) ∧ Upd w w' g := by
  obtain ⟨p, ha⟩ := h.at'
  refine (int_any ha h.ok n).mono ?_
  have e1 : intS (all.drop k) 0 n = (upDown (acc ((all.drop k).take n) n) n, all.drop (k + n), 0) := by
    unfold intS
    rw [show rightS n = true from decide_eq_true (by omega), takeS_ok _ _ _ hl, Int.toNat_natCast]
  rw [e1]
  rintro e w' ⟨rfl, hw⟩
  exact ⟨rfl, h.went hw _ rfl, hw.2⟩
theorem Rdr.left (h : Rdr w0 w g b all k) :
    Calls Try.prog 43 #[.pointer (some ⟨g, 0, none⟩)] w fun e w' => e = .returned (.int .i64 ((all.length - k : Nat) : Int)) ∧ w' = w := by
  obtain ⟨p, ha⟩ := h.at'
  have := left_any ha
  rw [List.length_drop] at this
  exact this
theorem Rdr.bytes (h : Rdr w0 w g b all k) (n : Nat) (hl : k + n ≤ all.length) :
    Calls Try.prog 42 #[.pointer (some ⟨g, 0, none⟩), .int .i64 n] w fun e w' => ∃ v, e = .returned v ∧ w'.ownsRow w.heap.size 5 1 v ((all.drop k).take n).length (encs (Value.int .u8) ((all.drop k).take n)) ∧ Rdr w0 w' g b all (k + n) ∧ Upd w w' g := by
  obtain ⟨p, ha⟩ := h.at'
  refine (bytes_any ha n).mono ?_
  have e1 : bytesS (all.drop k) 0 n = ((all.drop k).take n, all.drop (k + n), 0) := by
    unfold bytesS
    rw [show decide (0 ≤ (n : Int)) = true from decide_eq_true (by omega), takeS_ok _ _ _ hl]
  rw [e1]
  rintro e w' ⟨v, rfl, ho, hw⟩
  exact ⟨v, rfl, ho, h.went hw _ rfl, hw.2⟩
theorem own_far {w : World} {base n : Nat} {e : TypeId} {size : Nat} {v : Value} {xs : List Value} (h : w.ownsRow base e size v n xs) (q j : Nat) (u : Value) (hq : q < base) : (w.setCell ⟨q, j, none⟩ u).ownsRow base e size v n xs := by
  obtain ⟨h1, h2 | ⟨g, cap, cur, hv, hg, hh, h3⟩⟩ := h
  · exact ⟨h1, .inl h2⟩
  · exact ⟨h1, .inr ⟨g, cap, cur, hv, hg, (Below.heap_setCell w ⟨q, j, none⟩ u g (show g ≠ q by omega)).trans hh, h3⟩⟩
/-- A store beside the reader. -/
theorem Rdr.store (h : Rdr w0 w g b all k) (q j : Nat) (v : Value) (hq : w0.heap.size ≤ q) (h1 : q ≠ g) (h2 : q ≠ b) : Rdr w0 (w.setCell ⟨q, j, none⟩ v) g b all k := by
  obtain ⟨p, ha⟩ := h.at'
  exact ⟨⟨p, ha.keep (Upd.set w q j v) (Ne.symm h1) (Ne.symm h2)⟩, h.g0, h.b0, h.low.setCell hq v, h.ok⟩
/-- A new block beside the reader. -/
theorem Rdr.alloc (h : Rdr w0 w g b all k) (o : Obj) : Rdr w0 (w.alloc o) g b all k := by
  obtain ⟨p, ha⟩ := h.at'
  have hl := (Below.refl w.heap.size w).alloc (Nat.le_refl _) o
  exact ⟨⟨p, ha.below hl (lt_of_blk ha.blk) (lt_of_blk ha.byt)⟩, h.g0, h.b0, h.low.alloc h.low.size o, h.ok⟩
theorem Rdr.g_lt (h : Rdr w0 w g b all k) : g < w.heap.size := by obtain ⟨p, ha⟩ := h.at'; exact lt_of_blk ha.blk
theorem Rdr.b_lt (h : Rdr w0 w g b all k) : b < w.heap.size := by obtain ⟨p, ha⟩ := h.at'; exact lt_of_blk ha.byt
theorem Blk.upd {q : Nat} {cs : List Value} {t : TypeId} {w' : World} (h : Blk w q cs t) (hu : Upd w w' g) (hq : q ≠ g) : Blk w' q cs t := (hu.block q (lt_of_blk h) hq).trans h
theorem Blk.store {q : Nat} {cs : List Value} {t : TypeId} (h : Blk w q cs t) (j : Nat) (v : Value) : Blk (w.setCell ⟨q, j, none⟩ v) q (cs.set j v) t := by
  unfold Blk at h ⊢
  rw [Joins.block_setCell h, List.setIfInBounds_toArray]
theorem Blk.cell {q : Nat} {cs : List Value} {t : TypeId} (h : Blk w q cs t) (j : Nat) : w.cell? ⟨q, j, none⟩ = cs[j]? := by
  rw [Joins.cell_of_block h, List.getElem?_toArray]
theorem Blk.free {q : Nat} {cs : List Value} {t : TypeId} (h : Blk w q cs t) (j : Nat) : w.frozen? ⟨q, j, none⟩ = false := Joins.unfrozen_of_block h j
theorem Blk.new (o : List Value) (t : TypeId) : Blk (w.alloc (.cells o.toArray t)) w.heap.size o t := heap_alloc_new w _
theorem Blk.far {q p : Nat} {cs : List Value} {t : TypeId} (h : Blk w q cs t) (hp : q ≠ p) (j : Nat) (v : Value) : Blk (w.setCell ⟨p, j, none⟩ v) q cs t :=
  (Below.heap_setCell w ⟨p, j, none⟩ v q hp).trans h
theorem Blk.below {q : Nat} {cs : List Value} {t : TypeId} {w' : World} (h : Blk w q cs t) (hb : Below w.heap.size w w') : Blk w' q cs t := (hb.block q (lt_of_blk h)).trans h
theorem Rdr.below' {w' : World} (h : Rdr w0 w g b all k) (hb : Below w.heap.size w w') : Rdr w0 w' g b all k := by
  obtain ⟨p, ha⟩ := h.at'
  exact ⟨⟨p, ha.below hb (lt_of_blk ha.blk) (lt_of_blk ha.byt)⟩, h.g0, h.b0, below_step h.low hb, h.ok⟩
/-- A reader beside two blocks of cells: one that is written, one that is not. -/
structure Tri (w0 w : World) (g b : Nat) (all : List Int) (k q : Nat) (cs : List Value) (t : TypeId) (r : Nat) (cs2 : List Value) (t2 : TypeId) : Prop where
  rd : Rdr w0 w g b all k
  bq : Blk w q cs t
  br : Blk w r cs2 t2
  qg : q ≠ g
  qb : q ≠ b
  rg : r ≠ g
  rq : r ≠ q
  q0 : w0.heap.size ≤ q
variable {q r : Nat} {cs cs2 : List Value} {t t2 : TypeId}
theorem Tri.store (h : Tri w0 w g b all k q cs t r cs2 t2) (j : Nat) (v : Value) : Tri w0 (w.setCell ⟨q, j, none⟩ v) g b all k q (cs.set j v) t r cs2 t2 :=
  ⟨h.rd.store q j v h.q0 h.qg h.qb, h.bq.store j v, h.br.far h.rq j v, h.qg, h.qb, h.rg, h.rq, h.q0⟩
theorem Tri.upd (h : Tri w0 w g b all k q cs t r cs2 t2) {w' : World} {k' : Nat} (hd : Rdr w0 w' g b all k') (hu : Upd w w' g) : Tri w0 w' g b all k' q cs t r cs2 t2 :=
  ⟨hd, h.bq.upd hu h.qg, h.br.upd hu h.rg, h.qg, h.qb, h.rg, h.rq, h.q0⟩
theorem Tri.uint (h : Tri w0 w g b all k q cs t r cs2 t2) (n : Nat) (h1 : 1 ≤ n) (h8 : n ≤ 8) (hl : k + n ≤ all.length) :
    Calls Try.prog 40 #[.pointer (some ⟨g, 0, none⟩), .int .i64 n] w fun e w' => e = .returned (.int .u64 (acc ((all.drop k).take n) n)) ∧ Tri w0 w' g b all (k + n) q cs t r cs2 t2 :=
  (h.rd.uint n h1 h8 hl).mono fun _ _ ⟨e, a, u⟩ => ⟨e, h.upd a u⟩
theorem Tri.int (h : Tri w0 w g b all k q cs t r cs2 t2) (n : Nat) (h1 : 1 ≤ n) (h8 : n ≤ 8) (hl : k + n ≤ all.length) :
    Calls Try.prog 41 #[.pointer (some ⟨g, 0, none⟩), .int .i64 n] w fun e w' => e = .returned (.int .i64 (upDown (acc ((all.drop k).take n) n) n)) ∧ Tri w0 w' g b all (k + n) q cs t r cs2 t2 :=
  (h.rd.int n h1 h8 hl).mono fun _ _ ⟨e, a, u⟩ => ⟨e, h.upd a u⟩
theorem Tri.left (h : Tri w0 w g b all k q cs t r cs2 t2) :
    Calls Try.prog 43 #[.pointer (some ⟨g, 0, none⟩)] w fun e w' => e = .returned (.int .i64 ((all.length - k : Nat) : Int)) ∧ w' = w := h.rd.left
theorem Tri.bytes (h : Tri w0 w g b all k q cs t r cs2 t2) (n : Nat) (hl : k + n ≤ all.length) :
    Calls Try.prog 42 #[.pointer (some ⟨g, 0, none⟩), .int .i64 n] w fun e w' => ∃ v, e = .returned v ∧ w'.ownsRow w.heap.size 5 1 v ((all.drop k).take n).length (encs (Value.int .u8) ((all.drop k).take n)) ∧ Tri w0 w' g b all (k + n) q cs t r cs2 t2 :=
  (h.rd.bytes n hl).mono fun _ _ ⟨v, e, o, a, u⟩ => ⟨v, e, o, h.upd a u⟩
theorem Tri.drew (h : Tri w0 w g b all k q cs t r cs2 t2) : Tri w0 w.drew g b all k q cs t r cs2 t2 := by
  obtain ⟨p, ha⟩ := h.rd.at'
  exact ⟨⟨⟨p, ⟨ha.blk, ha.byt, ha.ne, ha.le, ha.suf, ha.ptr, ha.big⟩⟩, h.rd.g0, h.rd.b0, below_drew1 h.rd.low, h.rd.ok⟩, h.bq, h.br, h.qg, h.qb, h.rg, h.rq, h.q0⟩
theorem results_blk {P : Program} {fn : Func} {p u v : Tmp} {ty : TypeId} (h : fn.results = #[.cell p ty, .tmp u, .tmp v]) (tmps : Array Value) (w : World) (g : Nat) (t : TypeId) (cs cs' : List Value) (d : TypeDesc) (hg : Blk w g cs t) (hcs : cs = cs')
    (hp : tmps.getD p undef = .pointer (some ⟨g, 0, none⟩))
    (hu : P.underlying ty = some d) (hd : (match d with | .struct _ | .array _ _ => true | _ => false) = true) (hi : (P.info? ty).map (·.size) = some cs'.length) :
    (results fn tmps).run P w = .ok (.tuple #[.agg cs'.toArray, tmps.getD u undef, tmps.getD v undef]) w := by
  subst hcs
  exact results_ctt h tmps w g t cs.toArray (0, 0) d hp hg hu hd (by rw [hi]; simp)
/-- A name for the world behind stores. -/
theorem Tri.here {P : Program} {C : Code} {Q : Exit → Act → World → Prop} {a : Act} (h : Tri w0 w g b all k q cs t r cs2 t2) (H : ∀ w', Tri w0 w' g b all k q cs t r cs2 t2 → Code.wp P C Q a w') : Code.wp P C Q a w := H w h
end
end Go.Proofs.Ytjbjkjlfikfeeaa.Rd
namespace Go.Proofs.Ytjbjkjlfikfeeaa.P
open Go.RowKit Go.Proofs.YtjbjkjlfikfeeaaW.PrintWords Go.Proofs.YtjbjkjlfikfeeaaW.PrintLast Go.Proofs.YtjbjkjlfikfeeaaW.PrintMore
attribute [local go_sem] max2_int min2_int max_two min_two max_three min_three max_four min_four Go.Proofs.Ytjbjkjlfikfeeaa.Op.isSome_setCell   -- for this text's walks alone
set_option linter.unusedVariables false
set_option linter.unusedSimpArgs false

/-! ### ext_Find: function 45 -/
def ext_Find.l0 : Nat → Int → List (S94) → Int → Int → Option (List Int × Bool)
  | 0, _, _, _, _ => none
  | k + 1, x1, x8, x9, x10 => if x10 < x9 then (if 0 ≤ x10 then (if x10 < (x8.length : Int) then (if ((rd_T94 x8 x10).f0) = x1 then ((some (([] : List Int) : List Int)).bind fun y112 => (if y112.length + ((rd_T94 x8 x10).f1).length < 140737488355328 then (some ((y112 ++ ((rd_T94 x8 x10).f1)), true)) else (none))) else (ext_Find.l0 k x1 x8 x9 (wrap64 (x10 + 1)))) else (none)) else (none)) else (some (([] : List Int), false))
def ext_Find.f (k : Nat) (l0 : List (S94)) (a1 : Int) : Option (List Int × Bool) := ext_Find.l0 k a1 l0 (l0.length : Int) 0
theorem ext_Find.mono_l : ∀ k, (∀ y0 y1 y2 y3, LeO (ext_Find.l0 k y0 y1 y2 y3) (ext_Find.l0 (k + 1) y0 y1 y2 y3))
  | 0 => fun _ _ _ _ r h => by simp [ext_Find.l0] at h
  | k + 1 => by
    have ih0 := ext_Find.mono_l k
    · intro y0 y1 y2 y3
      unfold ext_Find.l0
      repeat' first
      | (with_reducible exact ih0 _ _ _ _)
      | (with_reducible exact LeO.refl _)
      | (with_reducible exact LeO.none _)
      | (with_reducible refine LeO.ite ?_ ?_)
      | (with_reducible refine LeO.bind ?_ (fun _ => ?_))
      | exact ih0 _ _ _ _
      | exact LeO.none _
      | refine LeO.ite ?_ ?_
      | refine LeO.bind ?_ (fun _ => ?_)
theorem ext_Find.mono : ∀ a0 a1 k, LeO (ext_Find.f k a0 a1) (ext_Find.f (k + 1) a0 a1) := by
  intro a0 a1 k
  have ih0 := ext_Find.mono_l k
  unfold ext_Find.f
  repeat' first
      | (with_reducible exact ih0 _ _ _ _)
      | (with_reducible exact LeO.refl _)
      | (with_reducible exact LeO.none _)
      | (with_reducible refine LeO.ite ?_ ?_)
      | (with_reducible refine LeO.bind ?_ (fun _ => ?_))
      | exact ih0 _ _ _ _
      | exact LeO.none _
      | refine LeO.ite ?_ ?_
      | refine LeO.bind ?_ (fun _ => ?_)
set_option maxHeartbeats 8000000 in
set_option maxRecDepth 100000 in
theorem ext_Find.calls (k : Nat) (A0 : Option Addr) (c0 : Nat) (l0 : List (S94)) (a1 : Int) (r1 : List Int) (r2 : Bool) (w : World) (hr0 : Kd.C k94 w A0 l0.length l0) (hc0 : l0.length ≤ c0) (h : ext_Find.f k l0 a1 = some (r1, r2)) :
    Calls Try.prog 45 #[.slice A0 l0.length c0, .int .i64 a1] w fun e w' => ∃ v0_ : Value, e = .returned (.tuple #[v0_, .bool r2]) ∧ Kd.R (Kd.int .u8) 5 w' w.heap.size (fun _ => True) v0_ r1 ∧ Below w.heap.size w w' := by
  have hu94 := Try.underlying94
  have HR0 := Aside0.mk hr0
  have HC0 := Aside0.mk hc0
  clear hr0 hc0
  have HB := Aside0.mk (Below.refl w.heap.size w)
  have H : (ext_Find.l0 k a1 l0 (l0.length : Int) 0) = some (r1, r2) := h
  clear h
  have H' := Aside0.mk H
  clear H
  go_enter Try.func45, Try.ntmps45
  go_wp2
  go_loopg [10] k (fun kq v10 w' => ∃ (x10_1 : Int), v10 = .int .i64 x10_1 ∧ Aside0 (ext_Find.l0 kq a1 l0 (l0.length : Int) x10_1 = some (r1, r2)) ∧ Aside0 (kq ≤ k) ∧ Aside0 (Below w.heap.size w w'))
  case atStart => exact ⟨(0), (by first | rfl | (simp; done) | (simp [*]; done)), H', ⟨Nat.le_refl _⟩, ⟨by repeat (first | (with_reducible first | exact HB.out | apply below_alloc | apply pw_below_drewN | apply below_drew1) | exact HB.out)⟩⟩
  case round =>
    clear H'
    try clear p2
    obtain ⟨x10_1, rfl, HA, HK1, HB⟩ := hrel
    cases gk with
    | zero => exact absurd HA.out (by simp [ext_Find.l0])
    | succ k1 =>
      have H := HA.out
      clear HA
      simp only [ext_Find.l0] at H
      by_cases c3 : x10_1 < (l0.length : Int)
      · rw [if_pos c3] at H
        have c3b0 : decide (x10_1 < (l0.length : Int)) = true := decide_eq_true c3
        clear c3
        by_cases c4 : 0 ≤ x10_1
        · rw [if_pos c4] at H
          have c4b0 : decide (0 ≤ x10_1) = true := decide_eq_true c4
          clear c4
          by_cases c5 : x10_1 < (l0.length : Int)
          · rw [if_pos c5] at H
            have c5b0 : decide (x10_1 < (l0.length : Int)) = true := decide_eq_true c5
            clear c5
            by_cases c6 : ((rd_T94 l0 x10_1).f0) = a1
            · rw [if_pos c6] at H
              have c6b0 : (((rd_T94 l0 x10_1).f0) == a1) = true := beq_iff_eq.mpr c6
              have c6b1 : (((rd_T94 l0 x10_1).f0) != a1) = false := bne_eq_false_iff_eq.mpr c6
              clear c6
              obtain ⟨y112, hy112⟩ : ∃ y_ : List Int, y_ = (([] : List Int)) := ⟨_, rfl⟩
              replace H : (if y112.length + ((rd_T94 l0 x10_1).f1).length < 140737488355328 then (some ((y112 ++ ((rd_T94 l0 x10_1).f1)), true)) else (none)) = some (r1, r2) := by first | (rw [hy112]; with_reducible exact H) | (have H2_ := (Option.bind_some _ _).symm.trans H; rw [hy112]; with_reducible exact H2_) | (have H2_ := (Option.bind_some _ _).symm.trans H; with_reducible exact H2_) | with_reducible exact H | (rw [hy112]; exact H) | exact H
              have Ny112 := Aside0.mk hy112
              clear hy112
              by_cases c7 : y112.length + ((rd_T94 l0 x10_1).f1).length < 140737488355328
              · rw [if_pos c7] at H
                have LMc7 := Aside0.mk c7
                clear c7
                obtain ⟨y115, hy115⟩ : ∃ y_ : List Int, y_ = (y112 ++ ((rd_T94 l0 x10_1).f1)) := ⟨_, rfl⟩
                replace H : (some (y115, true)) = some (r1, r2) := by first | (rw [hy115]; with_reducible exact H) | (have H2_ := (Option.bind_some _ _).symm.trans H; rw [hy115]; with_reducible exact H2_) | (have H2_ := (Option.bind_some _ _).symm.trans H; with_reducible exact H2_) | with_reducible exact H | (rw [hy115]; exact H) | exact H
                have Ny115 := Aside0.mk hy115
                clear hy115
                simp only [Option.some.injEq, Prod.mk.injEq] at H
                obtain ⟨rfl, rfl⟩ := H
                have p110 : 0 ≤ (x10_1 : Int) := of_decide_eq_true (by first | (with_reducible assumption) | assumption)
                have q110 : x10_1 < (l0.length : Int) := of_decide_eq_true (by first | (with_reducible assumption) | assumption)
                obtain ⟨ad110, A110_1, c110_1, e110, hx110_0, hx110_1, hl110_1, hi110_1⟩ := at_T94 HR0.out x10_1 p110 q110
                cases e110
                replace hx110_0 := (HB.out.cell (World.block_lt_of_cell? w _ hx110_0)).trans hx110_0
                replace hx110_1 := (HB.out.cell (World.block_lt_of_cell? w _ hx110_1)).trans hx110_1
                have HR110_1 := Aside0.mk hi110_1
                have HC110_1 := Aside0.mk hl110_1
                clear hi110_1 hl110_1
                replace p110 := eq_true p110
                replace q110 := eq_true q110
                go_wp2_with (first | ((with_reducible refine gate_dst (N := 7) rfl ?_); refine box_event ?hg (N := 7) ?hd (cs := #[.int .i64 0, .slice none 0 0]) (t := 94) ?hr ?_; (case hd => rfl); (case hg => rfl); (case hr => first | (go_simp; done) | (go_simp; rfl)); intro gb111 hg w8 hbox hb; have n0_ := Aside0.mk (below_step (by repeat (first | (with_reducible first | exact HB.out | apply below_alloc | apply pw_below_drewN | apply below_drew1) | exact HB.out)) hb); have n1_ := Aside0.mk (hbox); have n2_ := Aside0.mk ((by rw [hg]; exact (below_size (by repeat (first | (with_reducible first | exact HB.out | apply below_alloc | apply pw_below_drewN | apply below_drew1) | exact HB.out))) : w.heap.size ≤ gb111)); have n3_ := Aside0.mk ((by rw [hg]; exact (below_size (by repeat (first | (with_reducible first | exact HB.out | apply below_alloc | apply pw_below_drewN | apply below_drew1) | exact HB.out))) : w.heap.size ≤ gb111)); clear HB; have HB := n0_; have BK111 := n1_; have GW111 := n2_; have GE111 := n3_; clear n0_ n1_ n2_ n3_; clear hb hbox hg; have hcz9_0 : w8.cell? ⟨gb111, 0, none⟩ = some (.int .i64 0) := (blk_cell BK111.out 0).trans rfl; have hcz9_1 : w8.cell? ⟨gb111, 1, none⟩ = some (.slice none 0 0) := (blk_cell BK111.out 1).trans rfl; have hfz9_0 := blk_frozen BK111.out 0; have hfz9_1 := blk_frozen BK111.out 1) | ((with_reducible refine gate_dst (N := 18) rfl ?_); refine Kd.R_lit (Kd.int .u8) _ 5 ?hg (N := 18) ?hd (xs := ([] : List Int)) (inner := []) (ok := fun _ => True) (okp := fun _ => True) ?hr ?hp (fun _ hk => hk) trivial (Below.refl _ _) (Nat.le_refl _) (by simp) ?_; (case hd => rfl); (case hg => rfl); (case hr => first | (go_simp; done) | (go_simp; rfl)); (case hp => exact (Reps.none _ _)); intro v113 w10 ho11 hb hg_ hnew_; clear hg_ hnew_; (first | rw [← Ny112.out] at ho11 | (simp only [Int.reduceToNat] at ho11; rw [← Ny112.out] at ho11)); have n0_ := Aside0.mk (Kd.R_lower ho11 (below_size (by repeat (first | (with_reducible first | exact HB.out | apply below_alloc | apply pw_below_drewN | apply below_drew1 | refine below_set ?_ GE111.out) | exact HB.out)))); have n1_ := Aside0.mk (blk_below (g := gb111) (o := .cells #[.int .i64 ((rd_T94 l0 x10_1).f0), .slice A110_1 ((rd_T94 l0 x10_1).f1).length c110_1] 94 (0, 0)) (by (with_reducible repeat (first | refine blk_drewN ?_ _ | refine blk_drew ?_ | refine blk_alloc ?_ _)); refine blk_put (cs := #[.int .i64 ((rd_T94 l0 x10_1).f0), .slice none 0 0]) ?_ 1 _ rfl; (with_reducible repeat (first | refine blk_drewN ?_ _ | refine blk_drew ?_ | refine blk_alloc ?_ _)); refine blk_put (cs := #[.int .i64 0, .slice none 0 0]) ?_ 0 _ rfl; (with_reducible repeat (first | refine blk_drewN ?_ _ | refine blk_drew ?_ | refine blk_alloc ?_ _)); exact BK111.out) hb); have n2_ := Aside0.mk (below_step (by repeat (first | (with_reducible first | exact HB.out | apply below_alloc | apply pw_below_drewN | apply below_drew1 | refine below_set ?_ GE111.out) | exact HB.out)) hb); clear BK111; clear HB; have HO114 := n0_; have BK111 := n1_; have HB := n2_; clear n0_ n1_ n2_; clear hb ho11; have hcz12_0 : w10.cell? ⟨gb111, 0, none⟩ = some (.int .i64 ((rd_T94 l0 x10_1).f0)) := (blk_cell BK111.out 0).trans rfl; have hcz12_1 : w10.cell? ⟨gb111, 1, none⟩ = some (.slice A110_1 ((rd_T94 l0 x10_1).f1).length c110_1) := (blk_cell BK111.out 1).trans rfl; have hfz12_0 := blk_frozen BK111.out 0; have hfz12_1 := blk_frozen BK111.out 1) | ((with_reducible refine gate_builtin (b := .append) (xs := #[.tmp 18, .tmp 20]) rfl ?_); at_builtin; refine Kd.R_append_rows (Kd.int .u8) (w0 := w) w.heap.size rfl (.tmp 18) (.tmp 20) 53 5 (.int .u8 0) 1 rfl Try.underlying53 info5 rfl (by decide) (by omega) v113 y112 ((rd_T94 l0 x10_1).f1) _ _ _ (fun _ => True) (fun _ => False) rfl rfl ?aO ?aR (fun _ _ h => h) (fun _ h => h.elim) ?aF ?aB ?aS ?aL ?_; (case aR => repeat (first | exact (Kd.C_below HR110_1.out HB.out) | (with_reducible refine Kd.C_alloc ?_ _) | (with_reducible refine Kd.C_drewN ?_ _) | (with_reducible refine Kd.C_drew ?_))); (case aB => exact (by repeat (first | (with_reducible first | exact HB.out | apply below_alloc | apply pw_below_drewN | apply below_drew1 | refine below_set ?_ GE111.out) | exact HB.out))); (case aF => exact (fun _ _ => trivial)); (case aO => exact (by (with_reducible repeat (first | apply Kd.R_alloc | apply Kd.R_drewN | apply Kd.R_drew)); exact HO114.out)); (case aS => exact (below_size (by repeat (first | (with_reducible first | exact HB.out | apply below_alloc | apply pw_below_drewN | apply below_drew1 | refine below_set ?_ GE111.out) | exact HB.out)))); (case aL => have := LMc7.out; omega); intro v116 w13 ho hb hg hat; rw [← Ny115.out] at ho; have n0_ := Aside0.mk (blk_grown (g := gb111) (o := .cells #[.int .i64 ((rd_T94 l0 x10_1).f0), .slice A110_1 ((rd_T94 l0 x10_1).f1).length c110_1] 94 (0, 0)) (by (with_reducible repeat (first | refine blk_drewN ?_ _ | refine blk_drew ?_ | refine blk_alloc ?_ _)); exact BK111.out) hg (Kd.R_ne HO114.out BK111.out (by decide))); have n1_ := Aside0.mk (hb); have n2_ := Aside0.mk (ho); clear BK111; clear HB; clear HO114; have BK111 := n0_; have HB := n1_; have HO117 := n2_; clear n0_ n1_ n2_; clear ho hb hg hat))
                go_ret2
                exact ⟨_, by first | rfl | (simp [errW_none, errW_some] <;> rfl) | (simp [*, errW_none, errW_some] <;> rfl), by (with_reducible repeat (first | apply Kd.R_alloc | apply Kd.R_drewN | apply Kd.R_drew)); exact HO117.out, by repeat (first | (with_reducible first | exact HB.out | apply below_alloc | apply pw_below_drewN | apply below_drew1 | refine below_set ?_ GE111.out) | exact HB.out)⟩
              · rw [if_neg c7] at H
                exact absurd H (by simp)
            · rw [if_neg c6] at H
              have c6b0 : (((rd_T94 l0 x10_1).f0) == a1) = false := beq_eq_false_iff_ne.mpr c6
              have c6b1 : (((rd_T94 l0 x10_1).f0) != a1) = true := bne_iff_ne.mpr c6
              have H' := Aside0.mk H
              clear H
              have p110 : 0 ≤ (x10_1 : Int) := of_decide_eq_true (by first | (with_reducible assumption) | assumption)
              have q110 : x10_1 < (l0.length : Int) := of_decide_eq_true (by first | (with_reducible assumption) | assumption)
              obtain ⟨ad110, A110_1, c110_1, e110, hx110_0, hx110_1, hl110_1, hi110_1⟩ := at_T94 HR0.out x10_1 p110 q110
              cases e110
              replace hx110_0 := (HB.out.cell (World.block_lt_of_cell? w _ hx110_0)).trans hx110_0
              replace hx110_1 := (HB.out.cell (World.block_lt_of_cell? w _ hx110_1)).trans hx110_1
              have HR110_1 := Aside0.mk hi110_1
              have HC110_1 := Aside0.mk hl110_1
              clear hi110_1 hl110_1
              replace p110 := eq_true p110
              replace q110 := eq_true q110
              go_wp2_with (first | ((with_reducible refine gate_dst (N := 7) rfl ?_); refine box_event ?hg (N := 7) ?hd (cs := #[.int .i64 0, .slice none 0 0]) (t := 94) ?hr ?_; (case hd => rfl); (case hg => rfl); (case hr => first | (go_simp; done) | (go_simp; rfl)); intro gb111 hg w14 hbox hb; have n0_ := Aside0.mk (below_step (by repeat (first | (with_reducible first | exact HB.out | apply below_alloc | apply pw_below_drewN | apply below_drew1) | exact HB.out)) hb); have n1_ := Aside0.mk (hbox); have n2_ := Aside0.mk ((by rw [hg]; exact (below_size (by repeat (first | (with_reducible first | exact HB.out | apply below_alloc | apply pw_below_drewN | apply below_drew1) | exact HB.out))) : w.heap.size ≤ gb111)); have n3_ := Aside0.mk ((by rw [hg]; exact (below_size (by repeat (first | (with_reducible first | exact HB.out | apply below_alloc | apply pw_below_drewN | apply below_drew1) | exact HB.out))) : w.heap.size ≤ gb111)); clear HB; have HB := n0_; have BK111 := n1_; have GW111 := n2_; have GE111 := n3_; clear n0_ n1_ n2_ n3_; clear hb hbox hg; have hcz15_0 : w14.cell? ⟨gb111, 0, none⟩ = some (.int .i64 0) := (blk_cell BK111.out 0).trans rfl; have hcz15_1 : w14.cell? ⟨gb111, 1, none⟩ = some (.slice none 0 0) := (blk_cell BK111.out 1).trans rfl; have hfz15_0 := blk_frozen BK111.out 0; have hfz15_1 := blk_frozen BK111.out 1))
              go_roundg k1
              case measure => have := HK1.out; omega
              case rel => exact ⟨(wrap64 (x10_1 + 1)), (by first | rfl | (simp; done) | (simp [*]; done)), H', ⟨by have := HK1.out; omega⟩, ⟨by repeat (first | (with_reducible first | exact HB.out | apply below_alloc | apply pw_below_drewN | apply below_drew1 | refine below_set ?_ GE111.out) | exact HB.out)⟩⟩
          · rw [if_neg c5] at H
            exact absurd H (by simp)
        · rw [if_neg c4] at H
          exact absurd H (by simp)
      · rw [if_neg c3] at H
        have c3b0 : decide (x10_1 < (l0.length : Int)) = false := decide_eq_false c3
        clear c3
        simp only [Option.some.injEq, Prod.mk.injEq] at H
        obtain ⟨rfl, rfl⟩ := H
        go_wp2
        go_ret2
        exact ⟨_, by first | rfl | (simp [errW_none, errW_some] <;> rfl) | (simp [*, errW_none, errW_some] <;> rfl), by first | exact Kd.R_nil _ _ _ _ _ | exact Kd.N_nil _ _ _ _ _ | exact Kd.V_nil _ _ _ _ _ | exact Kd.Q_nil _ _ _ _ _ | exact Kd.S_nil _ _ _ _ _, by repeat (first | (with_reducible first | exact HB.out | apply below_alloc | apply pw_below_drewN | apply below_drew1) | exact HB.out)⟩

end Go.Proofs.Ytjbjkjlfikfeeaa.P
