/- ntpmsg.Decode. -/
import Derived.Test.YthneihebdlppeaaXRd4
import Derived.Deep.RegionWith
namespace Go.Proofs.Ythneihebdlppeaa.P
set_option linter.unusedVariables false
set_option linter.unusedSimpArgs false
open Go.RowKit Go.Proofs.YthneihebdlppeaaW.PrintWords Go.Proofs.YthneihebdlppeaaW.PrintLast Go.Proofs.YthneihebdlppeaaW.PrintMore Go.Proofs.Ythneihebdlppeaa.Rd

def zeros : List Value := [.int .i64 0, .int .i64 0, .int .i64 0, .int .i64 0, .int .i64 0, .int .i64 0, .int .u32 0, .int .u32 0, .int .u32 0, .int .u64 0, .int .u64 0, .int .u64 0, .int .u64 0]
theorem blk_cells13 {w : World} {q : Nat} {t : TypeId} {v0 v1 v2 v3 v4 v5 v6 v7 v8 v9 v10 v11 v12 : Value} (h : Blk w q [v0, v1, v2, v3, v4, v5, v6, v7, v8, v9, v10, v11, v12] t) : w.cell? ⟨q, 0, none⟩ = some v0 ∧ w.cell? ⟨q, 1, none⟩ = some v1 ∧ w.cell? ⟨q, 2, none⟩ = some v2 ∧ w.cell? ⟨q, 3, none⟩ = some v3 ∧ w.cell? ⟨q, 4, none⟩ = some v4 ∧ w.cell? ⟨q, 5, none⟩ = some v5 ∧ w.cell? ⟨q, 6, none⟩ = some v6 ∧ w.cell? ⟨q, 7, none⟩ = some v7 ∧ w.cell? ⟨q, 8, none⟩ = some v8 ∧ w.cell? ⟨q, 9, none⟩ = some v9 ∧ w.cell? ⟨q, 10, none⟩ = some v10 ∧ w.cell? ⟨q, 11, none⟩ = some v11 ∧ w.cell? ⟨q, 12, none⟩ = some v12 ∧ w.frozen? ⟨q, 0, none⟩ = false ∧ w.frozen? ⟨q, 1, none⟩ = false ∧ w.frozen? ⟨q, 2, none⟩ = false ∧ w.frozen? ⟨q, 3, none⟩ = false ∧ w.frozen? ⟨q, 4, none⟩ = false ∧ w.frozen? ⟨q, 5, none⟩ = false ∧ w.frozen? ⟨q, 6, none⟩ = false ∧ w.frozen? ⟨q, 7, none⟩ = false ∧ w.frozen? ⟨q, 8, none⟩ = false ∧ w.frozen? ⟨q, 9, none⟩ = false ∧ w.frozen? ⟨q, 10, none⟩ = false ∧ w.frozen? ⟨q, 11, none⟩ = false ∧ w.frozen? ⟨q, 12, none⟩ = false :=
  ⟨h.cell 0, h.cell 1, h.cell 2, h.cell 3, h.cell 4, h.cell 5, h.cell 6, h.cell 7, h.cell 8, h.cell 9, h.cell 10, h.cell 11, h.cell 12, h.free 0, h.free 1, h.free 2, h.free 3, h.free 4, h.free 5, h.free 6, h.free 7, h.free 8, h.free 9, h.free 10, h.free 11, h.free 12⟩
/-- The fields of a header. -/
def decOk (l0 : List Int) (V : Int) : List Value := [.int .i64 (wrap64 (acc (l0.take 1) 1) / 64), .int .i64 V, .int .i64 (bits .and .i64 (wrap64 (acc (l0.take 1) 1)) 7), .int .i64 (wrap64 (acc (l0.tail.take 1) 1)), .int .i64 (upDown (acc ((l0.drop 2).take 1) 1) 1), .int .i64 (upDown (acc ((l0.drop 3).take 1) 1) 1),
  .int .u32 (acc ((l0.drop 4).take 4) 4 % 4294967296), .int .u32 (acc ((l0.drop 8).take 4) 4 % 4294967296), .int .u32 (acc ((l0.drop 12).take 4) 4 % 4294967296), .int .u64 (acc ((l0.drop 16).take 8) 8), .int .u64 (acc ((l0.drop 24).take 8) 8), .int .u64 (acc ((l0.drop 32).take 8) 8), .int .u64 (acc ((l0.drop 40).take 8) 8)]
def DecPost (w : World) (cs : List Value) (l0 : List Int) (e : Ending) (w' : World) : Prop :=
  ∃ v, e = .returned (.tuple #[.agg cs.toArray, v, .int .i64 0]) ∧ w'.ownsRow w.heap.size 5 1 v ((l0.drop 48).take (l0.length - 48)).length (encs (Value.int .u8) ((l0.drop 48).take (l0.length - 48))) ∧ Below w.heap.size w w'
set_option maxHeartbeats 1000000 in
theorem dec_main (A0 : Option Addr) (c0 : Nat) (l0 : List Int) (w : World) (V : Int) (hr0 : Kd.C (Kd.int .u8) w A0 l0.length l0) (hc0 : l0.length ≤ c0) (hl : 48 ≤ l0.length) (hbig : l0.length ≤ 140737488355000) (hk : bytesOk l0)
    (hV : bits .and .i64 (wrap64 (acc (l0.take 1) 1) / 8) 7 = V) (hv1 : (V == 0) = false) (hv2 : decide (4 < V) = false) :
    Calls Try.prog 24 #[.slice A0 l0.length c0] w fun e w' => DecPost w (decOk l0 V) l0 e w' := by
  have d0 : decide ((l0.length : Int) < 48) = false := decide_eq_false (by omega)
  have HR := Lib.hid hr0
  clear hr0
  have hb0 := (Below.refl w.heap.size w).alloc (Nat.le_refl _) (.cells zeros.toArray 25)
  have hR1 := Kd.C_below HR.out hb0
  have hq0 : Blk (w.alloc (.cells zeros.toArray 25)) w.heap.size zeros 25 := Blk.new _ _
  have hs0 : (w.alloc (.cells zeros.toArray 25)).heap.size = w.heap.size + 1 := Array.size_push ..
  have HN : Hid (Calls Try.prog 44 #[.slice A0 l0.length c0] (w.alloc (.cells zeros.toArray 25)) fun e w' => ∃ g, e = .returned (.pointer (some ⟨g, 0, none⟩)) ∧ ∃ b, Rdr w w' g b l0 0 ∧ Blk w' w.heap.size zeros 25 ∧ w.heap.size ≠ g ∧ w.heap.size ≠ b) := by
    show Calls _ _ _ _ _
    refine (Rdr.new (w0 := w) hR1 hc0 hbig hk hb0).mono ?_
    rintro e w1 ⟨g, rfl, ⟨b, hd, hb⟩, hl, hg⟩
    exact ⟨g, rfl, b, hd, (hl.block _ (by omega)).trans hq0, by omega, by omega⟩
  clear hb0 hR1 hq0 hs0 HR
  go_enter Try.func24, Try.ntmps24
  go_wp2_with (first
    | ((with_reducible refine gate_callee (f := 44) rfl ?_); refine goesL_ _ rfl rfl Try.func44 (by kernel_rfl) rfl #[.slice A0 l0.length c0] rfl (by (try simp only [List.map_toArray, List.map_cons, List.map_nil]); first | done | rfl) ?_; refine HN.out.mono ?_; rintro e w1 ⟨g, rfl, b, hd, hq, hqg, hqb⟩; refine ⟨_, rfl, ?_⟩; have HD := Lib.hid hd; have HQ := Lib.hid hq; have HQG := Lib.hid hqg; have HQB := Lib.hid hqb; clear hd hq hqg hqb HN)
    | ((with_reducible refine gate_dst (N := 7) rfl ?_); refine box_event ?hg (N := 7) ?hd (cs := #[.int .i64 0, .int .i64 0, .int .i64 0, .int .i64 0, .int .i64 0, .int .i64 0, .int .u32 0, .int .u32 0, .int .u32 0, .int .u64 0, .int .u64 0, .int .u64 0, .int .u64 0]) (t := 25) ?hr ?_; (case hd => rfl); (case hg => rfl); (case hr => first | (go_simp; done) | (go_simp; rfl)); intro q2 hq2 w3 hbox hb; have hgl := HD.out.g_lt; have hbl := HD.out.b_lt; have hql := lt_of_blk HQ.out; have hsz := HD.out.low.size; have ht : Tri w w3 g b l0 _ q2 [.int .i64 0, .int .i64 0, .int .i64 0, .int .i64 0, .int .i64 0, .int .i64 0, .int .u32 0, .int .u32 0, .int .u32 0, .int .u64 0, .int .u64 0, .int .u64 0, .int .u64 0] 25 w.heap.size zeros 25 := ⟨HD.out.below' hb, hbox, HQ.out.below hb, by omega, by omega, HQG.out, by omega, by omega⟩; clear HD HQ HQG HQB hgl hbl hql hsz hb hq2 hbox; have HT := Lib.hid ht; obtain ⟨hc0, hc1, hc2, hc3, hc4, hc5, hc6, hc7, hc8, hc9, hc10, hc11, hc12, hf0, hf1, hf2, hf3, hf4, hf5, hf6, hf7, hf8, hf9, hf10, hf11, hf12⟩ := blk_cells13 ht.bq; clear ht)
    | ((with_reducible refine gate_callee (f := 47) rfl ?_); refine goesL_ _ rfl rfl Try.func47 (by kernel_rfl) rfl #[.pointer (some ⟨g, 0, none⟩), .int .i64 (1 : Nat)] rfl (by (try simp only [List.map_toArray, List.map_cons, List.map_nil]); first | done | rfl) ?_; (with_reducible first | refine (Tri.uint HT.out 1 (by omega) (by omega) ?hl).mono ?_ | refine (Tri.uint (HT.out.store _ _) 1 (by omega) (by omega) ?hl).mono ?_ | refine (Tri.uint ((HT.out.store _ _).store _ _) 1 (by omega) (by omega) ?hl).mono ?_ | refine (Tri.uint (((HT.out.store _ _).store _ _).store _ _) 1 (by omega) (by omega) ?hl).mono ?_ | refine (Tri.uint ((((HT.out.store _ _).store _ _).store _ _).store _ _) 1 (by omega) (by omega) ?hl).mono ?_ | refine (Tri.uint (((((((((((((HT.out.store _ _).store _ _).store _ _).store _ _).store _ _).store _ _).store _ _).store _ _).store _ _).store _ _).store _ _).store _ _).store _ _) 1 (by omega) (by omega) ?hl).mono ?_); (case hl => first | omega | (simp; omega)); rintro e wn ⟨rfl, ht⟩; refine ⟨_, rfl, ?_⟩; (try simp only [List.set_cons_zero, List.set_cons_succ] at ht); clear hc0 hc1 hc2 hc3 hc4 hc5 hc6 hc7 hc8 hc9 hc10 hc11 hc12 hf0 hf1 hf2 hf3 hf4 hf5 hf6 hf7 hf8 hf9 hf10 hf11 hf12 HT; have HT := Lib.hid ht; obtain ⟨hc0, hc1, hc2, hc3, hc4, hc5, hc6, hc7, hc8, hc9, hc10, hc11, hc12, hf0, hf1, hf2, hf3, hf4, hf5, hf6, hf7, hf8, hf9, hf10, hf11, hf12⟩ := blk_cells13 ht.bq; clear ht)
    | ((with_reducible refine gate_callee (f := 47) rfl ?_); refine goesL_ _ rfl rfl Try.func47 (by kernel_rfl) rfl #[.pointer (some ⟨g, 0, none⟩), .int .i64 (4 : Nat)] rfl (by (try simp only [List.map_toArray, List.map_cons, List.map_nil]); first | done | rfl) ?_; (with_reducible first | refine (Tri.uint HT.out 4 (by omega) (by omega) ?hl).mono ?_ | refine (Tri.uint (HT.out.store _ _) 4 (by omega) (by omega) ?hl).mono ?_ | refine (Tri.uint ((HT.out.store _ _).store _ _) 4 (by omega) (by omega) ?hl).mono ?_ | refine (Tri.uint (((HT.out.store _ _).store _ _).store _ _) 4 (by omega) (by omega) ?hl).mono ?_ | refine (Tri.uint ((((HT.out.store _ _).store _ _).store _ _).store _ _) 4 (by omega) (by omega) ?hl).mono ?_ | refine (Tri.uint (((((((((((((HT.out.store _ _).store _ _).store _ _).store _ _).store _ _).store _ _).store _ _).store _ _).store _ _).store _ _).store _ _).store _ _).store _ _) 4 (by omega) (by omega) ?hl).mono ?_); (case hl => first | omega | (simp; omega)); rintro e wn ⟨rfl, ht⟩; refine ⟨_, rfl, ?_⟩; (try simp only [List.set_cons_zero, List.set_cons_succ] at ht); clear hc0 hc1 hc2 hc3 hc4 hc5 hc6 hc7 hc8 hc9 hc10 hc11 hc12 hf0 hf1 hf2 hf3 hf4 hf5 hf6 hf7 hf8 hf9 hf10 hf11 hf12 HT; have HT := Lib.hid ht; obtain ⟨hc0, hc1, hc2, hc3, hc4, hc5, hc6, hc7, hc8, hc9, hc10, hc11, hc12, hf0, hf1, hf2, hf3, hf4, hf5, hf6, hf7, hf8, hf9, hf10, hf11, hf12⟩ := blk_cells13 ht.bq; clear ht)
    | ((with_reducible refine gate_callee (f := 47) rfl ?_); refine goesL_ _ rfl rfl Try.func47 (by kernel_rfl) rfl #[.pointer (some ⟨g, 0, none⟩), .int .i64 (8 : Nat)] rfl (by (try simp only [List.map_toArray, List.map_cons, List.map_nil]); first | done | rfl) ?_; (with_reducible first | refine (Tri.uint HT.out 8 (by omega) (by omega) ?hl).mono ?_ | refine (Tri.uint (HT.out.store _ _) 8 (by omega) (by omega) ?hl).mono ?_ | refine (Tri.uint ((HT.out.store _ _).store _ _) 8 (by omega) (by omega) ?hl).mono ?_ | refine (Tri.uint (((HT.out.store _ _).store _ _).store _ _) 8 (by omega) (by omega) ?hl).mono ?_ | refine (Tri.uint ((((HT.out.store _ _).store _ _).store _ _).store _ _) 8 (by omega) (by omega) ?hl).mono ?_ | refine (Tri.uint (((((((((((((HT.out.store _ _).store _ _).store _ _).store _ _).store _ _).store _ _).store _ _).store _ _).store _ _).store _ _).store _ _).store _ _).store _ _) 8 (by omega) (by omega) ?hl).mono ?_); (case hl => first | omega | (simp; omega)); rintro e wn ⟨rfl, ht⟩; refine ⟨_, rfl, ?_⟩; (try simp only [List.set_cons_zero, List.set_cons_succ] at ht); clear hc0 hc1 hc2 hc3 hc4 hc5 hc6 hc7 hc8 hc9 hc10 hc11 hc12 hf0 hf1 hf2 hf3 hf4 hf5 hf6 hf7 hf8 hf9 hf10 hf11 hf12 HT; have HT := Lib.hid ht; obtain ⟨hc0, hc1, hc2, hc3, hc4, hc5, hc6, hc7, hc8, hc9, hc10, hc11, hc12, hf0, hf1, hf2, hf3, hf4, hf5, hf6, hf7, hf8, hf9, hf10, hf11, hf12⟩ := blk_cells13 ht.bq; clear ht)
    | ((with_reducible refine gate_callee (f := 45) rfl ?_); refine goesL_ _ rfl rfl Try.func45 (by kernel_rfl) rfl #[.pointer (some ⟨g, 0, none⟩), .int .i64 (1 : Nat)] rfl (by (try simp only [List.map_toArray, List.map_cons, List.map_nil]); first | done | rfl) ?_; (with_reducible first | refine (Tri.int HT.out 1 (by omega) (by omega) ?hl).mono ?_ | refine (Tri.int (HT.out.store _ _) 1 (by omega) (by omega) ?hl).mono ?_ | refine (Tri.int ((HT.out.store _ _).store _ _) 1 (by omega) (by omega) ?hl).mono ?_ | refine (Tri.int (((HT.out.store _ _).store _ _).store _ _) 1 (by omega) (by omega) ?hl).mono ?_ | refine (Tri.int ((((HT.out.store _ _).store _ _).store _ _).store _ _) 1 (by omega) (by omega) ?hl).mono ?_ | refine (Tri.int (((((((((((((HT.out.store _ _).store _ _).store _ _).store _ _).store _ _).store _ _).store _ _).store _ _).store _ _).store _ _).store _ _).store _ _).store _ _) 1 (by omega) (by omega) ?hl).mono ?_); (case hl => first | omega | (simp; omega)); rintro e wn ⟨rfl, ht⟩; refine ⟨_, rfl, ?_⟩; (try simp only [List.set_cons_zero, List.set_cons_succ] at ht); clear hc0 hc1 hc2 hc3 hc4 hc5 hc6 hc7 hc8 hc9 hc10 hc11 hc12 hf0 hf1 hf2 hf3 hf4 hf5 hf6 hf7 hf8 hf9 hf10 hf11 hf12 HT; have HT := Lib.hid ht; obtain ⟨hc0, hc1, hc2, hc3, hc4, hc5, hc6, hc7, hc8, hc9, hc10, hc11, hc12, hf0, hf1, hf2, hf3, hf4, hf5, hf6, hf7, hf8, hf9, hf10, hf11, hf12⟩ := blk_cells13 ht.bq; clear ht)
    | ((with_reducible refine gate_callee (f := 47) rfl ?_); refine goesL_ _ rfl rfl Try.func47 (by kernel_rfl) rfl #[.pointer (some ⟨g, 0, none⟩), .int .i64 (1 : Nat)] rfl (by (try simp only [List.map_toArray, List.map_cons, List.map_nil]); first | done | rfl) ?_; refine (Rdr.uint HD.out 1 (by omega) (by omega) (by omega)).mono ?_; rintro e w2 ⟨rfl, hd, hu⟩; refine ⟨_, rfl, ?_⟩; clear HD; have HD := Lib.hid hd; have hq := HQ.out.upd hu HQG.out; clear HQ; have HQ := Lib.hid hq; clear hd hu hq)
    )
  refine Tri.here ((((HT.out.store _ _).store _ _).store _ _).store _ _) ?_
  intro w5 ht5
  simp only [List.set_cons_zero, List.set_cons_succ] at ht5
  clear hc0 hc1 hc2 hc3 hc4 hc5 hc6 hc7 hc8 hc9 hc10 hc11 hc12 hf0 hf1 hf2 hf3 hf4 hf5 hf6 hf7 hf8 hf9 hf10 hf11 hf12 HT
  obtain ⟨hc0, hc1, hc2, hc3, hc4, hc5, hc6, hc7, hc8, hc9, hc10, hc11, hc12, hf0, hf1, hf2, hf3, hf4, hf5, hf6, hf7, hf8, hf9, hf10, hf11, hf12⟩ := blk_cells13 ht5.bq
  have HT5 := Lib.hid ht5
  clear ht5
  go_region_with (first
    | (go_at_call 49; (with_reducible refine (Tri.left (HT5.out.drew)).mono ?_); rintro e w' ⟨rfl, rfl⟩)
    | (go_at_call 48; (with_reducible refine (Tri.bytes (HT5.out.drew) (l0.length - 48) ?hl).mono ?_); (case hl => omega); rintro e w6 ⟨v, rfl, ho, ht⟩; have HT6 := Lib.hid ht; have HO := Lib.hid ho; obtain ⟨mc0, mc1, mc2, mc3, mc4, mc5, mc6, mc7, mc8, mc9, mc10, mc11, mc12, mf0, mf1, mf2, mf3, mf4, mf5, mf6, mf7, mf8, mf9, mf10, mf11, mf12⟩ := blk_cells13 ht.bq; obtain ⟨kc0, kc1, kc2, kc3, kc4, kc5, kc6, kc7, kc8, kc9, kc10, kc11, kc12, kf0, kf1, kf2, kf3, kf4, kf5, kf6, kf7, kf8, kf9, kf10, kf11, kf12⟩ := blk_cells13 ht.br; clear ht ho))
  all_goals
    go_wp2
    (try simp only [Exit.inBlock, Exit.then])
    refine bodyPost_ret (results_blk rfl _ _ w.heap.size 25 _ (decOk l0 V) _ (((((((((((((HT6.out.br.store _ _).store _ _).store _ _).store _ _).store _ _).store _ _).store _ _).store _ _).store _ _).store _ _).store _ _).store _ _).store _ _) rfl rfl Try.underlying25 rfl (by kernel_rfl)) rfl ?_
    have hlt : w.heap.size < w5.drew.heap.size := lt_of_blk HT5.out.br
    exact ⟨_, rfl, own_less (own_far (own_far (own_far (own_far (own_far (own_far (own_far (own_far (own_far (own_far (own_far (own_far (own_far HO.out _ _ _ hlt) _ _ _ hlt) _ _ _ hlt) _ _ _ hlt) _ _ _ hlt) _ _ _ hlt) _ _ _ hlt) _ _ _ hlt) _ _ _ hlt) _ _ _ hlt) _ _ _ hlt) _ _ _ hlt) _ _ _ hlt) (Nat.le_of_lt hlt), (((((((((((((HT6.out.rd.low.setCell (Nat.le_refl _) _).setCell (Nat.le_refl _) _).setCell (Nat.le_refl _) _).setCell (Nat.le_refl _) _).setCell (Nat.le_refl _) _).setCell (Nat.le_refl _) _).setCell (Nat.le_refl _) _).setCell (Nat.le_refl _) _).setCell (Nat.le_refl _) _).setCell (Nat.le_refl _) _).setCell (Nat.le_refl _) _).setCell (Nat.le_refl _) _).setCell (Nat.le_refl _) _)⟩
set_option maxHeartbeats 1000000 in
theorem dec_short (A0 : Option Addr) (c0 : Nat) (l0 : List Int) (w : World) (hl : l0.length < 48) :
    Calls Try.prog 24 #[.slice A0 l0.length c0] w fun e w' => e = .returned (.tuple #[.agg zeros.toArray, .slice none 0 0, .int .i64 5]) ∧ Below w.heap.size w w' := by
  have d0 : decide ((l0.length : Int) < 48) = true := decide_eq_true (by omega)
  go_enter Try.func24, Try.ntmps24
  go_wp2
  (try simp only [Exit.inBlock, Exit.then])
  refine bodyPost_ret (results_blk rfl _ _ w.heap.size 25 _ zeros _ (Blk.new _ _) rfl rfl Try.underlying25 rfl (by kernel_rfl)) rfl ?_
  exact ⟨rfl, (Below.refl _ _).alloc (Nat.le_refl _) _⟩
set_option maxHeartbeats 1000000 in
theorem dec_kind (A0 : Option Addr) (c0 : Nat) (l0 : List Int) (w : World) (V : Int) (hr0 : Kd.C (Kd.int .u8) w A0 l0.length l0) (hc0 : l0.length ≤ c0) (hl : 48 ≤ l0.length) (hbig : l0.length ≤ 140737488355000) (hk : bytesOk l0)
    (hV : bits .and .i64 (wrap64 (acc (l0.take 1) 1) / 8) 7 = V) (hv : (V == 0) = true ∨ ((V == 0) = false ∧ decide (4 < V) = true)) :
    Calls Try.prog 24 #[.slice A0 l0.length c0] w fun e w' => e = .returned (.tuple #[.agg zeros.toArray, .slice none 0 0, .int .i64 8]) ∧ Below w.heap.size w w' := by
  have d0 : decide ((l0.length : Int) < 48) = false := decide_eq_false (by omega)
  have HR := Lib.hid hr0
  clear hr0
  have hb0 := (Below.refl w.heap.size w).alloc (Nat.le_refl _) (.cells zeros.toArray 25)
  have hR1 := Kd.C_below HR.out hb0
  have hq0 : Blk (w.alloc (.cells zeros.toArray 25)) w.heap.size zeros 25 := Blk.new _ _
  have hs0 : (w.alloc (.cells zeros.toArray 25)).heap.size = w.heap.size + 1 := Array.size_push ..
  have HN : Hid (Calls Try.prog 44 #[.slice A0 l0.length c0] (w.alloc (.cells zeros.toArray 25)) fun e w' => ∃ g, e = .returned (.pointer (some ⟨g, 0, none⟩)) ∧ ∃ b, Rdr w w' g b l0 0 ∧ Blk w' w.heap.size zeros 25 ∧ w.heap.size ≠ g ∧ w.heap.size ≠ b) := by
    show Calls _ _ _ _ _
    refine (Rdr.new (w0 := w) hR1 hc0 hbig hk hb0).mono ?_
    rintro e w1 ⟨g, rfl, ⟨b, hd, hb⟩, hl, hg⟩
    exact ⟨g, rfl, b, hd, (hl.block _ (by omega)).trans hq0, by omega, by omega⟩
  clear hb0 hR1 hq0 hs0 HR
  rcases hv with hv1 | ⟨hv1, hv2⟩
  all_goals
    go_enter Try.func24, Try.ntmps24
    go_wp2_with (first
      | ((with_reducible refine gate_callee (f := 44) rfl ?_); refine goesL_ _ rfl rfl Try.func44 (by kernel_rfl) rfl #[.slice A0 l0.length c0] rfl (by (try simp only [List.map_toArray, List.map_cons, List.map_nil]); first | done | rfl) ?_; refine HN.out.mono ?_; rintro e w1 ⟨g, rfl, b, hd, hq, hqg, hqb⟩; refine ⟨_, rfl, ?_⟩; have HD := Lib.hid hd; have HQ := Lib.hid hq; have HQG := Lib.hid hqg; have HQB := Lib.hid hqb; clear hd hq hqg hqb HN)
      | ((with_reducible refine gate_dst (N := 7) rfl ?_); refine box_event ?hg (N := 7) ?hd (cs := #[.int .i64 0, .int .i64 0, .int .i64 0, .int .i64 0, .int .i64 0, .int .i64 0, .int .u32 0, .int .u32 0, .int .u32 0, .int .u64 0, .int .u64 0, .int .u64 0, .int .u64 0]) (t := 25) ?hr ?_; (case hd => rfl); (case hg => rfl); (case hr => first | (go_simp; done) | (go_simp; rfl)); intro q2 hq2 w3 hbox hb; have hgl := HD.out.g_lt; have hbl := HD.out.b_lt; have hql := lt_of_blk HQ.out; have hsz := HD.out.low.size; have ht : Tri w w3 g b l0 _ q2 [.int .i64 0, .int .i64 0, .int .i64 0, .int .i64 0, .int .i64 0, .int .i64 0, .int .u32 0, .int .u32 0, .int .u32 0, .int .u64 0, .int .u64 0, .int .u64 0, .int .u64 0] 25 w.heap.size zeros 25 := ⟨HD.out.below' hb, hbox, HQ.out.below hb, by omega, by omega, HQG.out, by omega, by omega⟩; have hne1 : w.heap.size ≠ q2 := (by omega); have hne2 : q2 ≠ w.heap.size := (by omega); clear HD HQ HQG HQB hgl hbl hql hsz hb hq2 hbox; have HT := Lib.hid ht; obtain ⟨hc0, hc1, hc2, hc3, hc4, hc5, hc6, hc7, hc8, hc9, hc10, hc11, hc12, hf0, hf1, hf2, hf3, hf4, hf5, hf6, hf7, hf8, hf9, hf10, hf11, hf12⟩ := blk_cells13 ht.bq; obtain ⟨kc0, kc1, kc2, kc3, kc4, kc5, kc6, kc7, kc8, kc9, kc10, kc11, kc12, kf0, kf1, kf2, kf3, kf4, kf5, kf6, kf7, kf8, kf9, kf10, kf11, kf12⟩ := blk_cells13 ht.br; clear ht)
      | ((with_reducible refine gate_callee (f := 47) rfl ?_); refine goesL_ _ rfl rfl Try.func47 (by kernel_rfl) rfl #[.pointer (some ⟨g, 0, none⟩), .int .i64 (1 : Nat)] rfl (by (try simp only [List.map_toArray, List.map_cons, List.map_nil]); first | done | rfl) ?_; refine (Rdr.uint HD.out 1 (by omega) (by omega) (by omega)).mono ?_; rintro e w2 ⟨rfl, hd, hu⟩; refine ⟨_, rfl, ?_⟩; clear HD; have HD := Lib.hid hd; have hq := HQ.out.upd hu HQG.out; clear HQ; have HQ := Lib.hid hq; clear hd hu hq)
      )
    (try simp only [Exit.inBlock, Exit.then])
    refine bodyPost_ret (results_blk rfl _ _ w.heap.size 25 _ zeros _ ((((((((((((((((((((((((((HT.out.store _ _).store _ _).store _ _).store _ _).store _ _).store _ _).store _ _).store _ _).store _ _).store _ _).store _ _).store _ _).store _ _).br.store _ _).store _ _).store _ _).store _ _).store _ _).store _ _).store _ _).store _ _).store _ _).store _ _).store _ _).store _ _).store _ _) rfl rfl Try.underlying25 rfl (by kernel_rfl)) rfl ?_
    exact ⟨rfl, ((((((((((((((((((((((((((HT.out.store _ _).store _ _).store _ _).store _ _).store _ _).store _ _).store _ _).store _ _).store _ _).store _ _).store _ _).store _ _).store _ _).rd.low.setCell (Nat.le_refl _) _).setCell (Nat.le_refl _) _).setCell (Nat.le_refl _) _).setCell (Nat.le_refl _) _).setCell (Nat.le_refl _) _).setCell (Nat.le_refl _) _).setCell (Nat.le_refl _) _).setCell (Nat.le_refl _) _).setCell (Nat.le_refl _) _).setCell (Nat.le_refl _) _).setCell (Nat.le_refl _) _).setCell (Nat.le_refl _) _).setCell (Nat.le_refl _) _)⟩

/-- What Decode answers. -/
def ntpmsg_Decode.f (l0 : List Int) : Option (Int × Int × Int × Int × Int × Int × Int × Int × Int × Int × Int × Int × Int × List Int × Int) :=
  if l0.length < 48 then some (0, 0, 0, 0, 0, 0, 0, 0, 0, 0, 0, 0, 0, [], 5)
  else if l0.length ≤ 140737488355000 ∧ bytesOk l0 then
    if bits .and .i64 (wrap64 (acc (l0.take 1) 1) / 8) 7 = 0 ∨ 4 < bits .and .i64 (wrap64 (acc (l0.take 1) 1) / 8) 7 then some (0, 0, 0, 0, 0, 0, 0, 0, 0, 0, 0, 0, 0, [], 8)
    else some (wrap64 (acc (l0.take 1) 1) / 64, bits .and .i64 (wrap64 (acc (l0.take 1) 1) / 8) 7, bits .and .i64 (wrap64 (acc (l0.take 1) 1)) 7, wrap64 (acc (l0.tail.take 1) 1), upDown (acc ((l0.drop 2).take 1) 1) 1, upDown (acc ((l0.drop 3).take 1) 1) 1,
      acc ((l0.drop 4).take 4) 4 % 4294967296, acc ((l0.drop 8).take 4) 4 % 4294967296, acc ((l0.drop 12).take 4) 4 % 4294967296, acc ((l0.drop 16).take 8) 8, acc ((l0.drop 24).take 8) 8, acc ((l0.drop 32).take 8) 8, acc ((l0.drop 40).take 8) 8, l0.drop 48, 0)
  else none
theorem ntpmsg_Decode.calls (A0 : Option Addr) (c0 : Nat) (l0 : List Int) (r1 : Int) (r2 : Int) (r3 : Int) (r4 : Int) (r5 : Int) (r6 : Int) (r7 : Int) (r8 : Int) (r9 : Int) (r10 : Int) (r11 : Int) (r12 : Int) (r13 : Int) (r14 : List Int) (r15 : Int) (w : World) (hr0 : Kd.C (Kd.int .u8) w A0 l0.length l0) (hc0 : l0.length ≤ c0) (h : ntpmsg_Decode.f l0 = some (r1, r2, r3, r4, r5, r6, r7, r8, r9, r10, r11, r12, r13, r14, r15)) :
    Calls Try.prog 24 #[.slice A0 l0.length c0] w fun e w' => ∃ v13_ : Value, e = .returned (.tuple #[.agg #[.int .i64 r1, .int .i64 r2, .int .i64 r3, .int .i64 r4, .int .i64 r5, .int .i64 r6, .int .u32 r7, .int .u32 r8, .int .u32 r9, .int .u64 r10, .int .u64 r11, .int .u64 r12, .int .u64 r13], v13_, .int .i64 r15]) ∧ Kd.R (Kd.int .u8) 5 w' w.heap.size (fun _ => True) v13_ r14 ∧ Below w.heap.size w w' := by
  unfold ntpmsg_Decode.f at h
  split at h
  · rename_i h1
    simp only [Option.some.injEq, Prod.mk.injEq] at h
    obtain ⟨rfl, rfl, rfl, rfl, rfl, rfl, rfl, rfl, rfl, rfl, rfl, rfl, rfl, rfl, rfl⟩ := h
    refine (dec_short A0 c0 l0 w h1).mono ?_
    rintro e w' ⟨rfl, hb⟩
    exact ⟨_, rfl, Kd.R_nil _ _ _ _ _, hb⟩
  · rename_i h1
    split at h
    · rename_i h2
      obtain ⟨h2, h3⟩ := h2
      split at h
      · rename_i h4
        simp only [Option.some.injEq, Prod.mk.injEq] at h
        obtain ⟨rfl, rfl, rfl, rfl, rfl, rfl, rfl, rfl, rfl, rfl, rfl, rfl, rfl, rfl, rfl⟩ := h
        refine (dec_kind A0 c0 l0 w _ hr0 hc0 (by omega) h2 h3 rfl ?_).mono ?_
        · by_cases h5 : bits .and .i64 (wrap64 (acc (l0.take 1) 1) / 8) 7 = 0
          · exact .inl (by simpa using h5)
          · exact .inr ⟨by simpa using h5, decide_eq_true (by omega)⟩
        · rintro e w' ⟨rfl, hb⟩
          exact ⟨_, rfl, Kd.R_nil _ _ _ _ _, hb⟩
      · rename_i h4
        simp only [Option.some.injEq, Prod.mk.injEq] at h
        obtain ⟨rfl, rfl, rfl, rfl, rfl, rfl, rfl, rfl, rfl, rfl, rfl, rfl, rfl, rfl, rfl⟩ := h
        refine (dec_main A0 c0 l0 w _ hr0 hc0 (by omega) h2 h3 rfl (by simpa using fun h5 => h4 (.inl h5)) (decide_eq_false (fun h5 => h4 (.inr h5)))).mono ?_
        rintro e w' ⟨v, rfl, ho, hb⟩
        have e1 : (l0.drop 48).take (l0.length - 48) = l0.drop 48 := List.take_of_length_le (by rw [List.length_drop]; omega)
        rw [e1] at ho
        exact ⟨v, rfl, Kd.R_of_own ho (fun _ _ => trivial), hb⟩
    · cases h
end Go.Proofs.Ythneihebdlppeaa.P
