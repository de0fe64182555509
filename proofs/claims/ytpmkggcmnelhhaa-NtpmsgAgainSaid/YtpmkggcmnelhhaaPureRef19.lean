/- The reference's Decode answers as Decode does. -/
import Derived.Test.YtpmkggcmnelhhaaPureDec19
import Derived.Test.YtpmkggcmnelhhaaPx19
namespace Go.Proofs.Ytpmkggcmnelhhaa.P
open Go.RowKit Go.Proofs.YtpmkggcmnelhhaaW.PrintWords Go.Proofs.YtpmkggcmnelhhaaW.PrintLast Go.Proofs.YtpmkggcmnelhhaaW.PrintMore Go.Proofs.Ytpmkggcmnelhhaa.Rd

theorem rd_cut (l : List Int) (a s i : Nat) (hi : i < s) : rd ((l.drop a).take s) i = rd l ((a + i : Nat) : Int) := by
  unfold rd
  rw [Int.toNat_natCast, Int.toNat_natCast, List.getD_eq_getElem?_getD, List.getD_eq_getElem?_getD, List.getElem?_take_of_lt hi, List.getElem?_drop]
theorem add_byte (a r : Int) (h0 : 0 ≤ a) (h1 : a < 72057594037927936) (r0 : 0 ≤ r) (r1 : r ≤ 255) : IntKind.u64.wrap (IntKind.u64.wrap (a * 256) + IntKind.u64.wrap r) = a * 256 + r := by
  simp only [IntKind.wrap_u64]
  omega
theorem val_small {l : List Int} (h : bytesOk l) (i : Nat) (hi : i < 8) : val l i < 72057594037927936 := by
  have v1 := (val_range h i).2
  have hp : (2 : Int) ^ (8 * i) ≤ 2 ^ 56 := by
    have : (2 : Nat) ^ (8 * i) ≤ 2 ^ 56 := Nat.pow_le_pow_right (by omega) (by omega)
    have h2 : ((2 ^ (8 * i) : Nat) : Int) ≤ ((2 ^ 56 : Nat) : Int) := by exact_mod_cast this
    simpa using h2
  exact Int.lt_of_lt_of_le v1 hp
theorem get_loop (l : List Int) (hb : bytesOk l) (a s : Nat) (hs : s ≤ 8) (hl : a + s ≤ l.length) (hbig : l.length ≤ 2000) : ∀ (n i k : Nat), i + n = s → n < k →
    timesyncref19_get.l0 k l a s (val ((l.drop a).take s) i) i = some (val ((l.drop a).take s) s) := by
  intro n
  induction n with
  | zero =>
    intro i k hi hk
    obtain ⟨k, rfl⟩ : ∃ k', k = k' + 1 := ⟨k - 1, by omega⟩
    rw [timesyncref19_get.l0, if_neg (by omega), show i = s by omega]
  | succ n ih =>
    intro i k hi hk
    obtain ⟨k, rfl⟩ : ∃ k', k = k' + 1 := ⟨k - 1, by omega⟩
    have hbl : bytesOk ((l.drop a).take s) := bytesOk_take (bytesOk_drop hb a) s
    have v0 := (val_range hbl i).1
    have hv : val ((l.drop a).take s) i < 72057594037927936 := val_small hbl i (by omega)
    obtain ⟨r0, r1⟩ := rd_byte hbl i
    have e1 : wrap64 ((a : Int) + i) = ((a + i : Nat) : Int) := by unfold wrap64; omega
    have e2 : wrap64 ((i : Int) + 1) = ((i + 1 : Nat) : Int) := by unfold wrap64; omega
    rw [timesyncref19_get.l0, if_pos (by omega), e1, e2, if_pos (by omega), if_pos (by omega), ← rd_cut l a s i (by omega)]
    have e3 : IntKind.u64.wrap (IntKind.u64.wrap (val ((l.drop a).take s) i * 256) + IntKind.u64.wrap (rd ((l.drop a).take s) i)) = val ((l.drop a).take s) (i + 1) := by
      rw [val]
      exact add_byte _ _ v0 hv r0 r1
    rw [e3]
    exact ih (i + 1) k (by omega) (by omega)
theorem get_acc (l : List Int) (hb : bytesOk l) (a s k : Nat) (hs : s ≤ 8) (hl : a + s ≤ l.length) (hbig : l.length ≤ 2000) (hk : s < k) : timesyncref19_get.f k l a s = some (acc ((l.drop a).take s) s) := by
  rw [acc_val (bytesOk_take (bytesOk_drop hb a) s) s hs]
  exact get_loop l hb a s hs hl hbig s 0 k (by omega) hk
theorem w_byte (c : Int) (h0 : 0 ≤ c) (h1 : c ≤ 255) : wrap64 c = c := by unfold wrap64; omega
theorem v_ver (c : Int) (h0 : 0 ≤ c) (h1 : c ≤ 255) : Int.tmod (wrap64 (Int.tdiv c 8)) 8 = c / 8 % 8 := by
  rw [Int.tdiv_eq_ediv_of_nonneg h0, w_byte _ (by omega) (by omega), Int.tmod_eq_emod_of_nonneg (by omega)]
theorem v_leap (c : Int) (h0 : 0 ≤ c) (h1 : c ≤ 255) : wrap64 (Int.tdiv c 64) = c / 64 := by
  rw [Int.tdiv_eq_ediv_of_nonneg h0, w_byte _ (by omega) (by omega)]
theorem v_mode (c : Int) (h0 : 0 ≤ c) : Int.tmod c 8 = c % 8 := Int.tmod_eq_emod_of_nonneg h0
theorem one_cut (l : List Int) (a : Nat) (h : a < l.length) : (l.drop a).take 1 = [rd l (a : Int)] := by
  rw [List.drop_eq_getElem_cons h]
  unfold rd
  rw [Int.toNat_natCast, List.getD_eq_getElem?_getD, List.getElem?_eq_getElem h]
  rfl
theorem signed_ok (c : Int) (h0 : 0 ≤ c) (h1 : c ≤ 255) : timesyncref19_signed.f c = some (upDown c 1) := by
  rw [up_byte c h0 h1]
  unfold timesyncref19_signed.f
  have e : wrap64 c = c := by unfold wrap64; omega
  have e2 : wrap64 (c - 256) = c - 256 := by unfold wrap64; omega
  rw [e, e2]
  split <;> rfl
theorem refdec (l : List Int) (hb : bytesOk l) (hl : l.length ≤ 2000) (k : Nat) (hk : 20 < k) : timesyncref19_Decode.f k l = ntpmsg_Decode.f l := by
  unfold timesyncref19_Decode.f ntpmsg_Decode.f
  by_cases h48 : l.length < 48
  · rw [if_pos (by omega), if_pos h48]
  rw [if_neg (show ¬ (l.length : Int) < 48 by omega), if_neg h48, if_pos (show 0 < (l.length : Int) by omega), if_pos (show l.length ≤ 140737488355000 ∧ bytesOk l from ⟨by omega, hb⟩)]
  obtain ⟨k, rfl⟩ : ∃ k', k = k' + 1 := ⟨k - 1, by omega⟩
  have b0 : 0 ≤ rd l 0 ∧ rd l 0 ≤ 255 := rd_byte hb 0
  have b1 : 0 ≤ rd l 1 ∧ rd l 1 ≤ 255 := rd_byte hb 1
  have b2 : 0 ≤ rd l 2 ∧ rd l 2 ≤ 255 := rd_byte hb 2
  have b3 : 0 ≤ rd l 3 ∧ rd l 3 ≤ 255 := rd_byte hb 3
  have t0 : l.take 1 = [rd l 0] := by have := one_cut l 0 (by omega); simpa using this
  have t1 : l.tail.take 1 = [rd l 1] := by have := one_cut l 1 (by omega); rw [List.drop_one] at this; exact this
  have t2 : (l.drop 2).take 1 = [rd l 2] := one_cut l 2 (by omega)
  have t3 : (l.drop 3).take 1 = [rd l 3] := one_cut l 3 (by omega)
  rw [t0, t1, t2, t3, acc_one _ b0.1 b0.2, acc_one _ b1.1 b1.2, acc_one _ b2.1 b2.2, acc_one _ b3.1 b3.2]
  have c0 := v_ver (rd l 0) b0.1 b0.2
  have c1 := v_leap (rd l 0) b0.1 b0.2
  have c2 := v_mode (rd l 0) b0.1
  have w0 : wrap64 (rd l 0) = rd l 0 := w_byte _ b0.1 b0.2
  rw [w0]
  rw [and_seven (rd l 0 / 8) (by omega) (by omega), and_seven (rd l 0) b0.1 b0.2, c0]
  generalize hV : rd l 0 / 8 % 8 = V
  have j : ∀ b : Bool, (b = true ↔ (V = 0 ∨ 4 < V)) → timesyncref19_Decode.j0 (k + 1) l (rd l 0) V b = (if V = 0 ∨ 4 < V then some (0, 0, 0, 0, 0, 0, 0, 0, 0, 0, 0, 0, 0, [], 8)
      else some (rd l 0 / 64, V, rd l 0 % 8, wrap64 (rd l 1), upDown (rd l 2) 1, upDown (rd l 3) 1, acc ((l.drop 4).take 4) 4 % 4294967296, acc ((l.drop 8).take 4) 4 % 4294967296, acc ((l.drop 12).take 4) 4 % 4294967296, acc ((l.drop 16).take 8) 8, acc ((l.drop 24).take 8) 8, acc ((l.drop 32).take 8) 8, acc ((l.drop 40).take 8) 8, l.drop 48, 0)) := by
    intro b hbv
    rw [timesyncref19_Decode.j0]
    by_cases h : V = 0 ∨ 4 < V
    · rw [if_pos (hbv.2 h), if_pos h]
    · rw [if_neg (fun hx => h (hbv.1 hx)), if_neg h, if_pos (by omega), if_pos (by omega), signed_ok _ b2.1 b2.2, Option.bind_some, if_pos (by omega)]
      have g1 := get_acc l hb 4 4 k (by omega) (by omega) hl (by omega)
      have g2 := get_acc l hb 8 4 k (by omega) (by omega) hl (by omega)
      have g3 := get_acc l hb 12 4 k (by omega) (by omega) hl (by omega)
      have g4 := get_acc l hb 16 8 k (by omega) (by omega) hl (by omega)
      have g5 := get_acc l hb 24 8 k (by omega) (by omega) hl (by omega)
      have g6 := get_acc l hb 32 8 k (by omega) (by omega) hl (by omega)
      have g7 := get_acc l hb 40 8 k (by omega) (by omega) hl (by omega)
      have g1' : timesyncref19_get.f k l 4 4 = _ := g1
      have g2' : timesyncref19_get.f k l 8 4 = _ := g2
      have g3' : timesyncref19_get.f k l 12 4 = _ := g3
      have g4' : timesyncref19_get.f k l 16 8 = _ := g4
      have g5' : timesyncref19_get.f k l 24 8 = _ := g5
      have g6' : timesyncref19_get.f k l 32 8 = _ := g6
      have g7' : timesyncref19_get.f k l 40 8 = _ := g7
      rw [signed_ok _ b3.1 b3.2, g1', g2', g3', g4', g5', g6', g7', c1, c2]
      simp only [Option.bind_some, List.nil_append, List.length_nil]
      rw [if_pos (by omega), if_pos (by rw [List.length_drop]; omega)]
  by_cases h1 : V < 1
  · rw [if_pos h1, j true (by simp; omega)]
  · rw [if_neg h1, j _ (by simp; omega)]
end Go.Proofs.Ytpmkggcmnelhhaa.P
