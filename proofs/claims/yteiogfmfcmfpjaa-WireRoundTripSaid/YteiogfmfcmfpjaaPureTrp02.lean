/- The numbers of WireRoundTrip: cut to their sizes, their bytes one behind the other, read back. -/
import Derived.Test.YteiogfmfcmfpjaaPureAccG
import Derived.Test.YteiogfmfcmfpjaaPx0
import Derived.Test.YteiogfmfcmfpjaaPx2
namespace Go.Proofs.Yteiogfmfcmfpjaa.Rd
open Go.RowKit Go.Proofs.YteiogfmfcmfpjaaW.PrintWords Go.Proofs.YteiogfmfcmfpjaaW.PrintLast Go.Proofs.YteiogfmfcmfpjaaW.PrintMore
open Go.Proofs.Yteiogfmfcmfpjaa.P

theorem sw (x : Int) (h0 : 0 ≤ x) (h1 : x ≤ 1000000) : wrap64 x = x := by unfold wrap64; omega
theorem uw (x : Int) (h0 : 0 ≤ x) (h1 : x < 256) : IntKind.u64.wrap x = x := by rw [IntKind.wrap_u64]; omega
theorem rd_mid (pre b post : List Int) (i : Nat) (hi : i < b.length) : rd (pre ++ (b ++ post)) ((pre.length + i : Nat) : Int) = rd b (i : Int) := by
  unfold rd
  rw [Int.toNat_natCast, Int.toNat_natCast, List.getD_eq_getElem?_getD, List.getD_eq_getElem?_getD, List.getElem?_append_right (by omega), List.getElem?_append_left (by omega)]
  congr 2
  omega
theorem get_loop (pre B post : List Int) (s : Nat) (hb : B.length = s) (hB : bytesOk B) (h8 : s ≤ 8) (hp : pre.length ≤ 100000) : ∀ (m i k : Nat), i + m = s → m < k → wire_Get.l0 k (pre ++ (B ++ post)) pre.length (acc B i) s i = some (acc B s, 0) := by
  intro m
  induction m with
  | zero =>
    intro i k hi hk
    obtain ⟨k, rfl⟩ : ∃ k', k = k' + 1 := ⟨k - 1, by omega⟩
    obtain rfl : i = s := by omega
    rw [wire_Get.l0, if_neg (Int.lt_irrefl _)]
  | succ m ih =>
    intro i k hi hk
    obtain ⟨k, rfl⟩ : ∃ k', k = k' + 1 := ⟨k - 1, by omega⟩
    have hi8 : i < s := by omega
    have e1 : wrap64 ((pre.length : Int) + i) = ((pre.length + i : Nat) : Int) := (sw _ (by omega) (by omega)).trans (by omega)
    have e2 : wrap64 ((i : Int) + 1) = ((i + 1 : Nat) : Int) := (sw _ (by omega) (by omega)).trans (by omega)
    have e3 : IntKind.u64.wrap (rd B (i : Int)) = rd B (i : Int) := uw _ (rd_byte hB i).1 (Int.lt_of_le_of_lt (rd_byte hB i).2 (by decide))
    have e4 : rd (pre ++ (B ++ post)) ((pre.length + i : Nat) : Int) = rd B (i : Int) := rd_mid pre B post i (by omega)
    have c1 : (i : Int) < (s : Int) := by omega
    have c2 : (0 : Int) ≤ ((pre.length + i : Nat) : Int) := by omega
    have c3 : ((pre.length + i : Nat) : Int) < (((pre ++ (B ++ post)).length : Nat) : Int) := by rw [List.length_append, List.length_append]; omega
    rw [wire_Get.l0, if_pos c1, e1, e2, if_pos c2, if_pos c3, e4, e3]
    exact ih (i + 1) k (by omega) (by omega)
theorem get_acc (pre B post : List Int) (s : Nat) (hb : B.length = s) (hB : bytesOk B) (h1 : 1 ≤ s) (h8 : s ≤ 8) (hl : (pre ++ (B ++ post)).length ≤ 100000) : wire_Get.f 10 (pre ++ (B ++ post)) pre.length s = some (acc B s, 0) := by
  have hlen : (pre ++ (B ++ post)).length = pre.length + (s + post.length) := by rw [List.length_append, List.length_append, hb]
  rw [hlen] at hl
  have e4 : wrap64 ((((pre ++ (B ++ post)).length : Nat) : Int) - s) = ((pre.length + post.length : Nat) : Int) := by rw [hlen]; exact (sw _ (by omega) (by omega)).trans (by omega)
  have hz := get_loop pre B post s hb hB h8 (by omega) s 0 9 (by omega) (by omega)
  have c1 : (s : Int) ≥ 1 := by omega
  have c2 : (s : Int) ≤ 8 := by omega
  have c3 : ¬ (pre.length : Int) < 0 := by omega
  have c4 : ¬ (pre.length : Int) > ((pre.length + post.length : Nat) : Int) := by omega
  unfold wire_Get.f wire_right.f
  rw [if_pos c1, Option.bind_some, if_pos (decide_eq_true c2), if_neg c3, e4, decide_eq_false c4, wire_Get.j0, if_neg (by decide)]
  exact hz
/-- Get of a number's bytes, whatever stands before and behind them. -/
theorem get_be (pre post : List Int) (n : Int) (s : Nat) (h1 : 1 ≤ s) (h8 : s ≤ 8) (h0 : 0 ≤ n) (hn : n < 2 ^ (8 * s)) (hl : (pre ++ (be n s ++ post)).length ≤ 100000) : wire_Get.f 10 (pre ++ (be n s ++ post)) pre.length s = some (n, 0) := by
  have := get_acc pre (be n s) post s (be_length n s) (be_bytes n s) h1 h8 hl
  rwa [acc_be n s h0 hn h8] at this

abbrev SF := S45
def fsz (x : SF) : Nat := (IntKind.u64.wrap x.f1 % 8).toNat + 1
def fnn (x : SF) : Int := x.f0 / 2 ^ (64 - 8 * fsz x)
def fixF (x : SF) : SF := ⟨fnn x, (fsz x : Int)⟩
def flat (l : List SF) : List Int := l.flatMap fun x => be (fnn x) (fsz x)
theorem fsz_ok (x : SF) : 1 ≤ fsz x ∧ fsz x ≤ 8 := by
  unfold fsz
  rw [IntKind.wrap_u64]
  omega
theorem fnn_ok (x : SF) (h0 : 0 ≤ x.f0) (h1 : x.f0 < 18446744073709551616) : 0 ≤ fnn x ∧ fnn x < 2 ^ (8 * fsz x) := by
  obtain ⟨s1, s8⟩ := fsz_ok x
  unfold fnn
  generalize fsz x = s at *
  have hp : (0 : Int) < 2 ^ (64 - 8 * s) := Int.pow_pos (by decide)
  refine ⟨Int.ediv_nonneg h0 (Int.le_of_lt hp), Int.ediv_lt_of_lt_mul hp ?_⟩
  rw [← Int.pow_add, show 8 * s + (64 - 8 * s) = 64 by omega]
  exact h1
theorem flat_nil : flat [] = [] := rfl
theorem flat_append (a b : List SF) : flat (a ++ b) = flat a ++ flat b := by unfold flat; rw [List.flatMap_append]
theorem flat_cons (x : SF) (b : List SF) : flat (x :: b) = be (fnn x) (fsz x) ++ flat b := by unfold flat; rw [List.flatMap_cons]
theorem flat_len (l : List SF) : (flat l).length ≤ 8 * l.length := by
  induction l with
  | nil => simp [flat]
  | cons x t ih =>
    have := fsz_ok x
    rw [flat_cons, List.length_append, be_length, List.length_cons]
    omega
theorem flat_bytes (l : List SF) : bytesOk (flat l) := by
  intro y hy
  unfold flat at hy
  obtain ⟨x, _, h⟩ := List.mem_flatMap.1 hy
  exact be_bytes _ _ y h
theorem take_step (l : List SF) (j : Nat) (hj : j < l.length) : l.take (j + 1) = l.take j ++ [l[j]] := List.take_succ_eq_append_getElem hj
theorem flat_step (l : List SF) (j : Nat) (hj : j < l.length) : flat (l.take (j + 1)) = flat (l.take j) ++ be (fnn l[j]) (fsz l[j]) := by
  rw [take_step l j hj, flat_append, flat_cons, flat_nil, List.append_nil]
theorem flat_drop (l : List SF) (j : Nat) (hj : j < l.length) : flat (l.drop j) = be (fnn l[j]) (fsz l[j]) ++ flat (l.drop (j + 1)) := by
  rw [List.drop_eq_getElem_cons hj, flat_cons]
theorem flat_all (l : List SF) (j : Nat) : flat l = flat (l.take j) ++ flat (l.drop j) := by rw [← flat_append, List.take_append_drop]
def rowF (l : List SF) (j : Nat) : List SF := (l.take j).map fixF ++ l.drop j
theorem rowF_len (l : List SF) (j : Nat) : (rowF l j).length = l.length := by
  unfold rowF
  rw [List.length_append, List.length_map, List.length_take, List.length_drop]
  omega
theorem rowF_zero (l : List SF) : rowF l 0 = l := by simp [rowF]
theorem rowF_all (l : List SF) : rowF l l.length = l.map fixF := by simp [rowF]
theorem rowF_get (l : List SF) (j : Nat) (hj : j < l.length) : (rowF l j)[j]? = some l[j] := by
  unfold rowF
  rw [List.getElem?_append_right (by rw [List.length_map, List.length_take]; omega), List.length_map, List.length_take, Nat.min_eq_left (by omega), Nat.sub_self, List.getElem?_drop, Nat.add_zero, List.getElem?_eq_getElem hj]
theorem rowF_set (l : List SF) (j : Nat) (hj : j < l.length) : (rowF l j).set j (fixF l[j]) = rowF l (j + 1) := by
  unfold rowF
  rw [List.set_append_right _ _ (by rw [List.length_map, List.length_take]; omega), List.length_map, List.length_take, Nat.min_eq_left (by omega), Nat.sub_self, List.drop_eq_getElem_cons hj, List.set_cons_zero, take_step l j hj, List.map_append]
  simp
theorem e1_ok (x : SF) : wrap64 ((IntKind.u64.wrap x.f1).tmod 8) = ((fsz x - 1 : Nat) : Int) := by
  have h0 : 0 ≤ IntKind.u64.wrap x.f1 := by rw [IntKind.wrap_u64]; omega
  rw [Int.tmod_eq_emod_of_nonneg h0]
  unfold fsz
  generalize IntKind.u64.wrap x.f1 = z at h0
  rw [sw _ (by omega) (by omega)]
  omega
theorem e2_ok (s : Nat) (h1 : 1 ≤ s) (h8 : s ≤ 8) : wrap64 (((s - 1 : Nat) : Int) + 1) = (s : Int) ∧ wrap64 (8 * (s : Int)) = ((8 * s : Nat) : Int) ∧ wrap64 (64 - ((8 * s : Nat) : Int)) = ((64 - 8 * s : Nat) : Int) := by
  refine ⟨?_, ?_, ?_⟩ <;> (rw [sw _ (by omega) (by omega)]; omega)
/-- What a round of either loop meets. -/
structure Round (l : List SF) (j : Nat) (x : SF) (s : Nat) (y : Int) : Prop where
  row : (rowF l j)[j]? = some x
  set : (rowF l j).set j ⟨y, (s : Int)⟩ = rowF l (j + 1)
  fin : (l.map fixF)[j]? = some ⟨y, (s : Int)⟩
  s1 : 1 ≤ s
  s8 : s ≤ 8
  div : x.f0 / 2 ^ (64 - 8 * s) = y
  x0 : 0 ≤ x.f0
  app : wire_Append.f (flat (l.take j)) y s = some (flat (l.take (j + 1)), 0)
  len : (flat (l.take (j + 1))).length = (flat (l.take j)).length + s
  small : (flat (l.take j)).length ≤ 1600
  e1 : wrap64 ((IntKind.u64.wrap x.f1).tmod 8) = ((s - 1 : Nat) : Int)
  e2 : wrap64 (((s - 1 : Nat) : Int) + 1) = (s : Int)
  e3 : wrap64 (8 * (s : Int)) = ((8 * s : Nat) : Int)
  e4 : wrap64 (64 - ((8 * s : Nat) : Int)) = ((64 - 8 * s : Nat) : Int)
  get : wire_Get.f 10 (flat l) (flat (l.take j)).length s = some (y, 0)
  uint : uintS (flat (l.drop j)) 0 s = (y, flat (l.drop (j + 1)), 0)
theorem round_ok (l : List SF) (hl : l.length ≤ 200) (hwf : ∀ x ∈ l, 0 ≤ x.f0 ∧ x.f0 < 18446744073709551616) (j : Nat) (hj : j < l.length) : ∃ x s y, Round l j x s y := by
  have hx := hwf l[j] (List.getElem_mem hj)
  obtain ⟨s1, s8⟩ := fsz_ok l[j]
  have hfn := fnn_ok l[j] hx.1 hx.2
  have hfl : (flat (l.take j)).length ≤ 1600 := by
    have := flat_len (l.take j)
    rw [List.length_take, Nat.min_eq_left (Nat.le_of_lt hj)] at this
    clear hfn
    omega
  have hfa : (flat l).length ≤ 1600 := by
    have := flat_len l
    clear hfn
    omega
  have happ := app_fits (flat (l.take j)) (fnn l[j]) (fsz l[j]) s1 s8 hfn.1 hfn.2 (Nat.le_trans hfl (by decide))
  rw [← flat_step l j hj] at happ
  have hall : flat l = flat (l.take j) ++ (be (fnn l[j]) (fsz l[j]) ++ flat (l.drop (j + 1))) := by rw [flat_all l j, flat_drop l j hj]
  have hget := get_be (flat (l.take j)) (flat (l.drop (j + 1))) (fnn l[j]) (fsz l[j]) s1 s8 hfn.1 hfn.2 (by rw [← hall]; exact Nat.le_trans hfa (by decide))
  rw [← hall] at hget
  have huint := uintS_be (fnn l[j]) (fsz l[j]) s1 s8 hfn.1 hfn.2 (flat (l.drop (j + 1)))
  rw [← flat_drop l j hj] at huint
  obtain ⟨e2, e3, e4⟩ := e2_ok (fsz l[j]) s1 s8
  exact ⟨l[j], fsz l[j], fnn l[j], rowF_get l j hj, rowF_set l j hj, by rw [List.getElem?_map, List.getElem?_eq_getElem hj]; rfl, s1, s8, rfl, hx.1, happ, by rw [flat_step l j hj, List.length_append, be_length], hfl, e1_ok _, e2, e3, e4, hget, huint⟩
end Go.Proofs.Yteiogfmfcmfpjaa.Rd
