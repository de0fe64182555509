/- wire.Get of a slice's first bytes, and the calls of a reader: Uint, Int, Skip, Bytes, Left, Err, NewReader. -/
import Derived.Test.YthneihebdlppeaaXRd
namespace Go.Proofs.Ythneihebdlppeaa.Rd
set_option linter.unusedVariables false
set_option linter.unusedSimpArgs false
open Go.RowKit Go.Proofs.YthneihebdlppeaaW.PrintWords Go.Proofs.YthneihebdlppeaaW.PrintLast Go.Proofs.YthneihebdlppeaaW.PrintMore

/-- The number that the first k bytes are, as Go adds them up. -/
def acc (l : List Int) : Nat → Int
  | 0 => 0
  | k + 1 => Go.bits .or .u64 (IntKind.u64.wrap (acc l k * 256)) (rd l k)
theorem acc_range (l : List Int) (k : Nat) : 0 ≤ acc l k ∧ acc l k < 18446744073709551616 := by
  cases k with
  | zero => simp [acc]
  | succ k =>
    have h : ∀ x y : Int, 0 ≤ Go.bits .or .u64 x y ∧ Go.bits .or .u64 x y < 18446744073709551616 := by
      intro x y
      have e : Go.bits .or .u64 x y = IntKind.u64.wrap ((BitVec.ofInt 64 x ||| BitVec.ofInt 64 y).toNat : Int) := rfl
      rw [e, IntKind.wrap_u64]; omega
    exact h _ _
/-- The bytes of a slice. -/
def bytesOk (l : List Int) : Prop := ∀ x ∈ l, 0 ≤ x ∧ x ≤ 255
theorem rd_byte {l : List Int} (h : bytesOk l) (k : Nat) : 0 ≤ rd l (k : Int) ∧ rd l (k : Int) ≤ 255 := by
  unfold rd
  rw [Int.toNat_natCast, List.getD_eq_getElem?_getD]
  cases hx : l[k]? with
  | none => simp
  | some x =>
    rw [Option.getD_some]
    exact h x (List.mem_of_getElem? hx)
set_option maxHeartbeats 1000000 in
theorem get_all (w : World) (p : Option Addr) (n c : Nat) (l : List Int) (hr : Kd.C (Kd.int .u8) w p n l) (hb : bytesOk l) (h1 : 1 ≤ n) (h8 : n ≤ 8) :
    Calls Try.prog 51 #[.slice p n c, .int .i64 0, .int .i64 n] w fun e w' => e = .returned (.tuple #[.int .u64 (acc l n), .int .i64 0]) ∧ w' = w := by
  have d1 : decide (1 ≤ (n : Int)) = true := decide_eq_true (by omega)
  have d2 : decide ((n : Int) ≤ 8) = true := decide_eq_true (by omega)
  have b1 : (n : Int) ≤ 8 := by omega
  have b0 : 1 ≤ (n : Int) := by omega
  have hc : ∀ k : Nat, k < n → ∃ ad, p = some ad ∧ w.cell? (ad.add k) = some (.int .u8 (rd l k)) := by
    intro k hk
    obtain ⟨ad, e, hcell⟩ := Kd.at_int hr (k : Int) (by omega) (by omega)
    rw [Int.toNat_natCast] at hcell
    exact ⟨ad, e, hcell⟩
  obtain ⟨ad, rfl, _⟩ := hc 0 (by omega)
  have HC : Hid (∀ k : Nat, k < n → w.cell? (ad.add k) = some (.int .u8 (rd l k))) := by
    show ∀ k : Nat, _ → _
    intro k hk
    obtain ⟨ad', e, h'⟩ := hc k hk
    cases e
    exact h'
  clear hc hr
  go_enter Try.func51, Try.ntmps51
  go_wp2
  go_loop [8, 9, 24] (fun v8 _ v24 => ∃ k : Nat, k ≤ n ∧ v24 = .int .i64 k ∧ v8 = .int .u64 (acc l k)) (fun _ _ v24 => n - (intOf v24).toNat)
  case atStart => exact ⟨0, Nat.zero_le _, rfl, rfl⟩
  case round =>
    obtain ⟨k, hk, rfl, rfl⟩ := hrel
    by_cases hlt : k < n
    · have hx := HC.out k hlt
      obtain ⟨r0, r1⟩ := rd_byte hb k
      have hs : Hid (acc l (k + 1) = Go.bits .or .u64 (IntKind.u64.wrap (acc l k * 256)) (rd l k)) := by show _ = _; rfl
      generalize hX : rd l (k : Int) = x at *
      generalize hA : acc l k = a at *
      clear hX hA
      go_wp2
      go_round
      case rel => exact ⟨k + 1, by omega, by go_num, by rw [hs.out]⟩
      case measure => simp [intOf]; omega
    · obtain rfl : k = n := by omega
      go_wp2
      go_ret2
      exact ⟨rfl, rfl⟩

/-! ### what the calls answer -/
def takeS (rest : List Int) (err n : Int) (ok : Bool) : Option (List Int) × List Int × Int :=
  if err ≠ 0 then (none, rest, err) else if ok = false then (none, rest, 2) else if (rest.length : Int) < n then (none, rest, 5) else (some (rest.take n.toNat), rest.drop n.toNat, 0)
def rightS (size : Int) : Bool := decide (1 ≤ size ∧ size ≤ 8)
def uintS (rest : List Int) (err size : Int) : Int × List Int × Int :=
  match takeS rest err size (rightS size) with
  | (none, r, e) => (0, r, e)
  | (some l, r, e) => (acc l size.toNat, r, e)
/-- The signed value: shifted up to the top and back. -/
def upDown (x : Int) (s : Nat) : Int := wrap64 (IntKind.u64.wrap (x * 2 ^ (64 - 8 * s))) / 2 ^ (64 - 8 * s)
def intS (rest : List Int) (err size : Int) : Int × List Int × Int :=
  match takeS rest err size (rightS size) with
  | (none, r, e) => (0, r, e)
  | (some l, r, e) => (upDown (acc l size.toNat) size.toNat, r, e)
def bytesS (rest : List Int) (err n : Int) : List Int × List Int × Int :=
  match takeS rest err n (decide (0 ≤ n)) with
  | (none, r, e) => ([], r, e)
  | (some l, r, e) => (l, r, e)
def skipS (rest : List Int) (err n : Int) : List Int × Int := (takeS rest err n (decide (0 ≤ n))).2

section
variable {w : World} {g b : Nat} {all rest : List Int} {err : Int} {p : Option Addr}
/-- A reader behind a call that turned nothing but it. -/
def Went (w : World) (g b : Nat) (all : List Int) (s : List Int × Int) (w' : World) : Prop := (∃ p', At w' g b all s.1 s.2 p') ∧ Upd w w' g
theorem Went.same (h : At w g b all rest err p) : Went w g b all (rest, err) w := ⟨⟨p, h⟩, Upd.refl _ _⟩
theorem Went.noted (h : At w g b all rest err p) (e : Int) : Went w g b all (rest, e) (w.setCell ⟨g, 1, none⟩ (.int .i64 e)) := ⟨⟨p, h.note e⟩, Upd.set _ _ _ _⟩

/-- One contract of take, for whatever state. -/
theorem take_any (h : At w g b all rest err p) (n : Int) (ok : Bool) (hn : ok = true → 0 ≤ n) :
    (∃ l r e', takeS rest err n ok = (some l, r, e') ∧ Calls Try.prog 57 #[.pointer (some ⟨g, 0, none⟩), .int .i64 n, .bool ok] w fun e w' => e = .returned (.tuple #[.slice p n.toNat rest.length, .bool true]) ∧ Went w g b all (r, e') w' ∧ Kd.C (Kd.int .u8) w' p n.toNat l) ∨
    (∃ r e', takeS rest err n ok = (none, r, e') ∧ Calls Try.prog 57 #[.pointer (some ⟨g, 0, none⟩), .int .i64 n, .bool ok] w fun e w' => e = .returned (.tuple #[.slice none 0 0, .bool false]) ∧ Went w g b all (r, e') w') := by
  unfold takeS
  by_cases he : err ≠ 0
  · rw [if_pos he]
    refine .inr ⟨_, _, rfl, (take_stopped h he n ok).mono ?_⟩
    rintro e w' ⟨rfl, rfl⟩
    exact ⟨rfl, Went.same h⟩
  · rw [if_neg he]
    obtain rfl : err = 0 := Decidable.of_not_not he
    cases ok with
    | false =>
      rw [if_pos rfl]
      refine .inr ⟨_, _, rfl, (take_wrong h n).mono ?_⟩
      rintro e w' ⟨rfl, rfl⟩
      exact ⟨rfl, Went.noted h 2⟩
    | true =>
      rw [if_neg (by simp)]
      by_cases hs : (rest.length : Int) < n
      · rw [if_pos hs]
        refine .inr ⟨_, _, rfl, (take_short h n hs).mono ?_⟩
        rintro e w' ⟨rfl, rfl⟩
        exact ⟨rfl, Went.noted h 5⟩
      · rw [if_neg hs]
        obtain ⟨m, rfl⟩ := Int.eq_ofNat_of_zero_le (hn rfl)
        rw [Int.toNat_natCast]
        refine .inl ⟨_, _, _, rfl, (take_some h m (by omega)).mono ?_⟩
        rintro e w' ⟨rfl, p', ha, hu⟩
        refine ⟨rfl, ⟨⟨p', ha⟩, hu⟩, ?_⟩
        exact reads_of ha.byt h m (by omega)

/-! ### Uint -/
theorem bytesOk_take {l : List Int} (h : bytesOk l) (n : Nat) : bytesOk (l.take n) := fun x hx => h x (List.mem_of_mem_take hx)
theorem bytesOk_drop {l : List Int} (h : bytesOk l) (n : Nat) : bytesOk (l.drop n) := fun x hx => h x (List.mem_of_mem_drop hx)
theorem At.bytes (h : At w g b all rest err p) (hb : bytesOk all) : bytesOk rest := by rw [h.suf]; exact bytesOk_drop hb _
theorem takeS_some {rest : List Int} {err n : Int} {ok : Bool} {l r : List Int} {e : Int} (h : takeS rest err n ok = (some l, r, e)) : l = rest.take n.toNat ∧ n ≤ rest.length := by
  unfold takeS at h
  split at h
  · cases h
  · split at h
    · cases h
    · split at h
      · cases h
      · cases h; exact ⟨rfl, by omega⟩
set_option maxHeartbeats 1000000 in
theorem uint_wrong (h : At w g b all rest err p) (size : Int) (hr : rightS size = false) (hd : decide (1 ≤ size) = false ∨ (decide (1 ≤ size) = true ∧ decide (size ≤ 8) = false)) :
    Calls Try.prog 47 #[.pointer (some ⟨g, 0, none⟩), .int .i64 size] w fun e w' => e = .returned (.int .u64 (uintS rest err size).1) ∧ Went w g b all (uintS rest err size).2 w' := by
  have H := Lib.hid h
  clear h
  rcases take_any H.out size false (fun h => by cases h) with ⟨l, r, e', he, hc⟩ | ⟨r, e', he, hc⟩
  · have : False := by
      unfold takeS at he
      split at he
      · cases he
      · cases he
    exact this.elim
  · have HT := Lib.hid hc
    have HS : Hid (uintS rest err size = (0, r, e')) := by
      show _ = _
      unfold uintS
      rw [hr, he]
    clear hc he
    rcases hd with d1 | ⟨d1, d2⟩
    all_goals
      go_enter Try.func47, Try.ntmps47
      go_wp2_with (first
        | ((with_reducible refine gate_callee (f := 57) rfl ?_); refine goesL_ _ rfl rfl Try.func57 (by kernel_rfl) rfl #[.pointer (some ⟨g, 0, none⟩), .int .i64 size, .bool false] rfl (by (try simp only [List.map_toArray, List.map_cons, List.map_nil]); first | done | rfl) ?_; refine HT.out.mono ?_; rintro e w1 ⟨rfl, hw⟩; refine ⟨_, rfl, ?_⟩; have HW := Lib.hid hw; clear hw)
        | go_in)
      go_ret
      rw [HS.out]
      exact ⟨rfl, HW.out⟩
set_option maxHeartbeats 1000000 in
theorem uint_any (h : At w g b all rest err p) (hb : bytesOk all) (size : Int) :
    Calls Try.prog 47 #[.pointer (some ⟨g, 0, none⟩), .int .i64 size] w fun e w' => e = .returned (.int .u64 (uintS rest err size).1) ∧ Went w g b all (uintS rest err size).2 w' := by
  have H := Lib.hid h
  have hbr := h.bytes hb
  clear h
  by_cases h1 : 1 ≤ size
  · by_cases h2 : size ≤ 8
    · have hr : rightS size = true := decide_eq_true ⟨h1, h2⟩
      have d1 : decide (1 ≤ size) = true := decide_eq_true h1
      have d2 : decide (size ≤ 8) = true := decide_eq_true h2
      obtain ⟨n, rfl⟩ := Int.eq_ofNat_of_zero_le (show 0 ≤ size by omega)
      rcases take_any H.out n true (fun _ => by omega) with ⟨l, r, e', he, hc⟩ | ⟨r, e', he, hc⟩
      · simp only [Int.toNat_natCast] at hc
        have HT := Lib.hid hc
        obtain ⟨hl, hle⟩ := takeS_some he
        rw [Int.toNat_natCast] at hl
        subst hl
        have hlb : bytesOk (rest.take n) := bytesOk_take hbr _
        have HS : Hid (uintS rest err n = (acc (rest.take n) n, r, e')) := by
          show _ = _
          unfold uintS
          rw [hr, he]; rfl
        clear hc he
        go_enter Try.func47, Try.ntmps47
        go_wp2_with (first
          | ((with_reducible refine gate_callee (f := 57) rfl ?_); refine goesL_ _ rfl rfl Try.func57 (by kernel_rfl) rfl #[.pointer (some ⟨g, 0, none⟩), .int .i64 n, .bool true] rfl (by (try simp only [List.map_toArray, List.map_cons, List.map_nil]); first | done | rfl) ?_; refine HT.out.mono ?_; rintro e w1 ⟨rfl, hw, hk⟩; refine ⟨_, rfl, ?_⟩; have HW := Lib.hid hw; have HK := Lib.hid hk; clear hw hk)
          | ((with_reducible refine gate_callee (f := 51) rfl ?_); refine goesL_ _ rfl rfl Try.func51 (by kernel_rfl) rfl #[.slice p n rest.length, .int .i64 0, .int .i64 n] rfl (by (try simp only [List.map_toArray, List.map_cons, List.map_nil]); first | done | rfl) ?_; refine (get_all w1 p n rest.length (rest.take n) HK.out hlb (by omega) (by omega)).mono ?_; rintro e w2 ⟨rfl, rfl⟩; refine ⟨_, rfl, ?_⟩)
          | go_in)
        go_ret
        rw [HS.out]
        exact ⟨rfl, HW.out⟩
      · have HT := Lib.hid hc
        have HS : Hid (uintS rest err n = (0, r, e')) := by
          show _ = _
          unfold uintS
          rw [hr, he]
        clear hc he
        go_enter Try.func47, Try.ntmps47
        go_wp2_with (first
          | ((with_reducible refine gate_callee (f := 57) rfl ?_); refine goesL_ _ rfl rfl Try.func57 (by kernel_rfl) rfl #[.pointer (some ⟨g, 0, none⟩), .int .i64 n, .bool true] rfl (by (try simp only [List.map_toArray, List.map_cons, List.map_nil]); first | done | rfl) ?_; refine HT.out.mono ?_; rintro e w1 ⟨rfl, hw⟩; refine ⟨_, rfl, ?_⟩; have HW := Lib.hid hw; clear hw)
          | go_in)
        go_ret
        rw [HS.out]
        exact ⟨rfl, HW.out⟩
    · have hr : rightS size = false := decide_eq_false (fun h => h2 h.2)
      have d1 : decide (1 ≤ size) = true := decide_eq_true h1
      have d2 : decide (size ≤ 8) = false := decide_eq_false h2
      exact uint_wrong H.out size hr (.inr ⟨d1, d2⟩)
  · exact uint_wrong H.out size (decide_eq_false (fun h => h1 h.1)) (.inl (decide_eq_false h1))
set_option maxHeartbeats 1000000 in
theorem int_wrong (h : At w g b all rest err p) (size : Int) (hr : rightS size = false) (hd : decide (1 ≤ size) = false ∨ (decide (1 ≤ size) = true ∧ decide (size ≤ 8) = false)) :
    Calls Try.prog 45 #[.pointer (some ⟨g, 0, none⟩), .int .i64 size] w fun e w' => e = .returned (.int .i64 (intS rest err size).1) ∧ Went w g b all (intS rest err size).2 w' := by
  have H := Lib.hid h
  clear h
  rcases take_any H.out size false (fun h => by cases h) with ⟨l, r, e', he, hc⟩ | ⟨r, e', he, hc⟩
  · have : False := by
      unfold takeS at he
      split at he
      · cases he
      · cases he
    exact this.elim
  · have HT := Lib.hid hc
    have HS : Hid (intS rest err size = (0, r, e')) := by
      show _ = _
      unfold intS
      rw [hr, he]
    clear hc he
    rcases hd with d1 | ⟨d1, d2⟩
    all_goals
      go_enter Try.func45, Try.ntmps45
      go_wp2_with (first
        | ((with_reducible refine gate_callee (f := 57) rfl ?_); refine goesL_ _ rfl rfl Try.func57 (by kernel_rfl) rfl #[.pointer (some ⟨g, 0, none⟩), .int .i64 size, .bool false] rfl (by (try simp only [List.map_toArray, List.map_cons, List.map_nil]); first | done | rfl) ?_; refine HT.out.mono ?_; rintro e w1 ⟨rfl, hw⟩; refine ⟨_, rfl, ?_⟩; have HW := Lib.hid hw; clear hw)
        | go_in)
      go_ret
      rw [HS.out]
      exact ⟨rfl, HW.out⟩
set_option maxHeartbeats 1000000 in
theorem int_any (h : At w g b all rest err p) (hb : bytesOk all) (size : Int) :
    Calls Try.prog 45 #[.pointer (some ⟨g, 0, none⟩), .int .i64 size] w fun e w' => e = .returned (.int .i64 (intS rest err size).1) ∧ Went w g b all (intS rest err size).2 w' := by
  have H := Lib.hid h
  have hbr := h.bytes hb
  clear h
  by_cases h1 : 1 ≤ size
  · by_cases h2 : size ≤ 8
    · have hr : rightS size = true := decide_eq_true ⟨h1, h2⟩
      have d1 : decide (1 ≤ size) = true := decide_eq_true h1
      have d2 : decide (size ≤ 8) = true := decide_eq_true h2
      obtain ⟨n, rfl⟩ := Int.eq_ofNat_of_zero_le (show 0 ≤ size by omega)
      rcases take_any H.out n true (fun _ => by omega) with ⟨l, r, e', he, hc⟩ | ⟨r, e', he, hc⟩
      · simp only [Int.toNat_natCast] at hc
        have HT := Lib.hid hc
        obtain ⟨hl, hle⟩ := takeS_some he
        rw [Int.toNat_natCast] at hl
        subst hl
        have hlb : bytesOk (rest.take n) := bytesOk_take hbr _
        have HS : Hid (intS rest err n = (upDown (acc (rest.take n) n) n, r, e')) := by
          show _ = _
          unfold intS
          rw [hr, he]; rfl
        clear hc he
        go_enter Try.func45, Try.ntmps45
        go_wp2_with (first
          | ((with_reducible refine gate_callee (f := 57) rfl ?_); refine goesL_ _ rfl rfl Try.func57 (by kernel_rfl) rfl #[.pointer (some ⟨g, 0, none⟩), .int .i64 n, .bool true] rfl (by (try simp only [List.map_toArray, List.map_cons, List.map_nil]); first | done | rfl) ?_; refine HT.out.mono ?_; rintro e w1 ⟨rfl, hw, hk⟩; refine ⟨_, rfl, ?_⟩; have HW := Lib.hid hw; have HK := Lib.hid hk; clear hw hk)
          | ((with_reducible refine gate_callee (f := 51) rfl ?_); refine goesL_ _ rfl rfl Try.func51 (by kernel_rfl) rfl #[.slice p n rest.length, .int .i64 0, .int .i64 n] rfl (by (try simp only [List.map_toArray, List.map_cons, List.map_nil]); first | done | rfl) ?_; refine (get_all w1 p n rest.length (rest.take n) HK.out hlb (by omega) (by omega)).mono ?_; rintro e w2 ⟨rfl, rfl⟩; refine ⟨_, rfl, ?_⟩)
          | go_in)
        go_ret
        rw [HS.out]
        exact ⟨rfl, HW.out⟩
      · have HT := Lib.hid hc
        have HS : Hid (intS rest err n = (0, r, e')) := by
          show _ = _
          unfold intS
          rw [hr, he]
        clear hc he
        go_enter Try.func45, Try.ntmps45
        go_wp2_with (first
          | ((with_reducible refine gate_callee (f := 57) rfl ?_); refine goesL_ _ rfl rfl Try.func57 (by kernel_rfl) rfl #[.pointer (some ⟨g, 0, none⟩), .int .i64 n, .bool true] rfl (by (try simp only [List.map_toArray, List.map_cons, List.map_nil]); first | done | rfl) ?_; refine HT.out.mono ?_; rintro e w1 ⟨rfl, hw⟩; refine ⟨_, rfl, ?_⟩; have HW := Lib.hid hw; clear hw)
          | go_in)
        go_ret
        rw [HS.out]
        exact ⟨rfl, HW.out⟩
    · have hr : rightS size = false := decide_eq_false (fun h => h2 h.2)
      have d1 : decide (1 ≤ size) = true := decide_eq_true h1
      have d2 : decide (size ≤ 8) = false := decide_eq_false h2
      exact int_wrong H.out size hr (.inr ⟨d1, d2⟩)
  · exact int_wrong H.out size (decide_eq_false (fun h => h1 h.1)) (.inl (decide_eq_false h1))
end
end Go.Proofs.Ythneihebdlppeaa.Rd
