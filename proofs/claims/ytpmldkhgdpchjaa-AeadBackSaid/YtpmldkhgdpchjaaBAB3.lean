/- What the claim of this folder needs of its texts, put together by a program of this claim. Conditions: none. -/
import Derived.Test.YtpmldkhgdpchjaaBAB2
set_option linter.unusedVariables false
namespace Go.Proofs.Ytpmldkhgdpchjaa
open Go.MW


set_option maxRecDepth 100000 in
set_option maxHeartbeats 400000 in
theorem wide_spec (N : Nat) (w : World) :
    Calls Try.prog 75 [.agg (arr .u8 17 (byt N))].toArray w (PostV w (.agg (arr .u32 17 (byt N)))) := by
  refine calls_of_WC Try.func75 rfl ?_
  simp only [Try.ntmps75, List.length_cons, List.length_nil, Nat.reduceAdd, Nat.reduceSub, List.replicate, List.cons_append, List.nil_append]
  refine WC_seq ?_
  refine WC_region ?_
  refine WL_rel rfl (rel_box rfl rfl) ?_
  rintro _ _ ⟨b0, rfl, rfl⟩
  dsimp only [put, List.set, ev, nth, List.nil_append, List.cons_append, md, Nat.reducePow, Nat.reduceAdd, Nat.reduceMul]
  refine WL_rel rfl (rel_alloc z112 rfl) ?_
  rintro _ _ ⟨b1, rfl, rfl⟩
  dsimp only [put, List.set, ev, nth, List.nil_append, List.cons_append, md, Nat.reducePow, Nat.reduceAdd, Nat.reduceMul]
  refine WL_nil ?_
  refine WC_seq ?_
  refine WC_region ?_
  refine WL_rel rfl (rel_alloc z112 rfl) ?_
  rintro _ _ ⟨b2, rfl, rfl⟩
  dsimp only [put, List.set, ev, nth, List.nil_append, List.cons_append, md, Nat.reducePow, Nat.reduceAdd, Nat.reduceMul]
  refine WL_nil ?_
  refine WC_seq ?_
  refine WC_seq ?_
  refine WC_region ?_
  refine WL_det rfl (det_loadWA 0 Try.underlying76 rfl i76 rfl rfl) ?_
  dsimp only [put, List.set, ev, nth, List.nil_append, List.cons_append, md, Nat.reducePow, Nat.reduceAdd, Nat.reduceMul]
  refine WL_det rfl (det_move) ?_
  dsimp only [put, List.set, ev, nth, List.nil_append, List.cons_append, md, Nat.reducePow, Nat.reduceAdd, Nat.reduceMul]
  refine WL_nil ?_
  refine WC_block ?_
  refine WC_loopS (ι := Nat) [8, 9, 10, 4, 5, 11, 12, 13, 14, 15] (fun k => [(7, vn .i64 (k))]) (fun k => [(2, (some b2, .cells (arr .u32 17 (fun i => if i < k then byt N i else 0)) 112 (0, 0)))]) (fun k => k ≤ 17) (fun k => 17 - k) 0 ?_ ?_ ?_ ?_
  · rfl
  · simp only [Nat.not_lt_zero, if_false]
    try rfl
  · exact (by omega)
  · intro k g hI
    dsimp only [setAll, setG, setM, List.set]
    have hd := byt_lt N k
    refine WC_seq ?_
    refine WC_region ?_
    refine WL_det rfl (det_lss (q := 17) rfl rfl) ?_
    dsimp only [put, List.set, ev, nth, List.nil_append, List.cons_append, md, Nat.reducePow, Nat.reduceAdd, Nat.reduceMul]
    refine WL_nil ?_
    refine WC_seq ?_
    refine WC_cond rfl (fun hc0 => ?_) (fun hc0 => ?_)
    · have hc0 := of_decide_eq_true hc0
      refine WC_skip ?_
      refine WC_seq ?_
      refine WC_block ?_
      refine WC_seq ?_
      refine WC_region ?_
      refine WL_det rfl (det_move) ?_
      dsimp only [put, List.set, ev, nth, List.nil_append, List.cons_append, md, Nat.reducePow, Nat.reduceAdd, Nat.reduceMul]
      refine WL_det rfl (det_index Try.underlying76 Try.sizeOf5 Try.isAgg5 rfl rfl rfl (by omega)) ?_
      dsimp only [put, List.set, ev, nth, List.nil_append, List.cons_append, md, Nat.reducePow, Nat.reduceAdd, Nat.reduceMul]
      refine WL_det rfl (det_assign) ?_
      dsimp only [put, List.set, ev, nth, List.nil_append, List.cons_append, md, Nat.reducePow, Nat.reduceAdd, Nat.reduceMul]
      refine WL_det rfl (det_assign) ?_
      dsimp only [put, List.set, ev, nth, List.nil_append, List.cons_append, md, Nat.reducePow, Nat.reduceAdd, Nat.reduceMul]
      refine WL_nil ?_
      refine WC_region ?_
      refine WL_det rfl (det_move) ?_
      dsimp only [put, List.set, ev, nth, List.nil_append, List.cons_append, md, Nat.reducePow, Nat.reduceAdd, Nat.reduceMul]
      refine WL_det rfl (det_move) ?_
      dsimp only [put, List.set, ev, nth, List.nil_append, List.cons_append, md, Nat.reducePow, Nat.reduceAdd, Nat.reduceMul]
      refine WL_det rfl (det_conv' Try.underlying24 Try.underlying5 rfl rfl (by simp only [md]; first | omega | exact Nat.or_lt_two_pow (n := 32) (by omega) (by omega) | exact Nat.lt_of_le_of_lt Nat.and_le_left (by omega) | exact Nat.lt_of_le_of_lt Nat.and_le_right (by omega) | exact Nat.xor_lt_two_pow (n := 32) (by omega) (by omega))) ?_
      dsimp only [put, List.set, ev, nth, List.nil_append, List.cons_append, md, Nat.reducePow, Nat.reduceAdd, Nat.reduceMul]
      refine WL_det rfl (det_idxA Try.underlying112 Try.sizeOf24 rfl rfl (rfl) (by omega)) ?_
      dsimp only [put, List.set, ev, nth, List.nil_append, List.cons_append, md, Nat.reducePow, Nat.reduceAdd, Nat.reduceMul]
      refine WL_chg rfl (chg_storeA 2 Try.sizeOf24 rfl rfl (by omega) rfl) ?_
      rintro _ _ rfl
      dsimp only [put, List.set, ev, nth, List.nil_append, List.cons_append, md, Nat.reducePow, Nat.reduceAdd, Nat.reduceMul]
      refine WL_nil ?_
      refine WC_region ?_
      refine WL_det rfl (det_addi (q := 1) rfl rfl (by omega)) ?_
      dsimp only [put, List.set, ev, nth, List.nil_append, List.cons_append, md, Nat.reducePow, Nat.reduceAdd, Nat.reduceMul]
      refine WL_det rfl (det_move) ?_
      dsimp only [put, List.set, ev, nth, List.nil_append, List.cons_append, md, Nat.reducePow, Nat.reduceAdd, Nat.reduceMul]
      refine WL_nil ?_
      refine ⟨k + 1, ?_, ?_, ?_, ?_⟩
      · rfl
      · rw [upd_fill]
      · omega
      · omega
    · have hc0 := of_decide_eq_false hc0
      refine WC_exit ?_
      refine inB_same ?_
      refine WC_seq ?_
      refine WC_region ?_
      refine WL_det rfl (det_loadWA 2 Try.underlying112 rfl i112 rfl rfl) ?_
      dsimp only [put, List.set, ev, nth, List.nil_append, List.cons_append, md, Nat.reducePow, Nat.reduceAdd, Nat.reduceMul]
      refine WL_chg rfl (chg_storeWA 1 Try.sizeOf112 rfl rfl rfl) ?_
      rintro _ _ rfl
      dsimp only [put, List.set, ev, nth, List.nil_append, List.cons_append, md, Nat.reducePow, Nat.reduceAdd, Nat.reduceMul]
      refine WL_nil ?_
      refine WC_ret ?_
      obtain rfl : k = 17 := by omega
      rw [arr_congr (f := fun i => if i < 17 then byt N i else 0) (g := byt N) (fun i hi => if_pos hi)]
      refine fin_cell 1 Try.results75 rfl rfl Try.underlying112 rfl i112 (arr_size _ _ _) ([]) (List.nil_sublist _) ?_
      exact ⟨rfl, rfl⟩

set_option maxRecDepth 100000 in
set_option maxHeartbeats 400000 in
theorem plain_spec (N : Nat) (w : World) :
    Calls Try.prog 82 [.agg (arr .u32 17 (byt N))].toArray w (PostV w (.agg (arr .u8 17 (byt N)))) := by
  refine calls_of_WC Try.func82 rfl ?_
  simp only [Try.ntmps82, List.length_cons, List.length_nil, Nat.reduceAdd, Nat.reduceSub, List.replicate, List.cons_append, List.nil_append]
  refine WC_seq ?_
  refine WC_region ?_
  refine WL_rel rfl (rel_box rfl rfl) ?_
  rintro _ _ ⟨b0, rfl, rfl⟩
  dsimp only [put, List.set, ev, nth, List.nil_append, List.cons_append, md, Nat.reducePow, Nat.reduceAdd, Nat.reduceMul]
  refine WL_rel rfl (rel_alloc z76 rfl) ?_
  rintro _ _ ⟨b1, rfl, rfl⟩
  dsimp only [put, List.set, ev, nth, List.nil_append, List.cons_append, md, Nat.reducePow, Nat.reduceAdd, Nat.reduceMul]
  refine WL_nil ?_
  refine WC_seq ?_
  refine WC_region ?_
  refine WL_rel rfl (rel_alloc z76 rfl) ?_
  rintro _ _ ⟨b2, rfl, rfl⟩
  dsimp only [put, List.set, ev, nth, List.nil_append, List.cons_append, md, Nat.reducePow, Nat.reduceAdd, Nat.reduceMul]
  refine WL_nil ?_
  refine WC_seq ?_
  refine WC_seq ?_
  refine WC_region ?_
  refine WL_det rfl (det_loadWA 0 Try.underlying112 rfl i112 rfl rfl) ?_
  dsimp only [put, List.set, ev, nth, List.nil_append, List.cons_append, md, Nat.reducePow, Nat.reduceAdd, Nat.reduceMul]
  refine WL_det rfl (det_move) ?_
  dsimp only [put, List.set, ev, nth, List.nil_append, List.cons_append, md, Nat.reducePow, Nat.reduceAdd, Nat.reduceMul]
  refine WL_nil ?_
  refine WC_block ?_
  refine WC_loopS (ι := Nat) [8, 9, 10, 4, 5, 11, 12, 13, 14, 15] (fun k => [(7, vn .i64 (k))]) (fun k => [(2, (some b2, .cells (arr .u8 17 (fun i => if i < k then byt N i else 0)) 76 (0, 0)))]) (fun k => k ≤ 17) (fun k => 17 - k) 0 ?_ ?_ ?_ ?_
  · rfl
  · simp only [Nat.not_lt_zero, if_false]
    try rfl
  · exact (by omega)
  · intro k g hI
    dsimp only [setAll, setG, setM, List.set]
    have hd := byt_lt N k
    refine WC_seq ?_
    refine WC_region ?_
    refine WL_det rfl (det_lss (q := 17) rfl rfl) ?_
    dsimp only [put, List.set, ev, nth, List.nil_append, List.cons_append, md, Nat.reducePow, Nat.reduceAdd, Nat.reduceMul]
    refine WL_nil ?_
    refine WC_seq ?_
    refine WC_cond rfl (fun hc0 => ?_) (fun hc0 => ?_)
    · have hc0 := of_decide_eq_true hc0
      refine WC_skip ?_
      refine WC_seq ?_
      refine WC_block ?_
      refine WC_seq ?_
      refine WC_region ?_
      refine WL_det rfl (det_move) ?_
      dsimp only [put, List.set, ev, nth, List.nil_append, List.cons_append, md, Nat.reducePow, Nat.reduceAdd, Nat.reduceMul]
      refine WL_det rfl (det_index Try.underlying112 Try.sizeOf24 Try.isAgg24 rfl rfl rfl (by omega)) ?_
      dsimp only [put, List.set, ev, nth, List.nil_append, List.cons_append, md, Nat.reducePow, Nat.reduceAdd, Nat.reduceMul]
      refine WL_det rfl (det_assign) ?_
      dsimp only [put, List.set, ev, nth, List.nil_append, List.cons_append, md, Nat.reducePow, Nat.reduceAdd, Nat.reduceMul]
      refine WL_det rfl (det_assign) ?_
      dsimp only [put, List.set, ev, nth, List.nil_append, List.cons_append, md, Nat.reducePow, Nat.reduceAdd, Nat.reduceMul]
      refine WL_nil ?_
      refine WC_region ?_
      refine WL_det rfl (det_move) ?_
      dsimp only [put, List.set, ev, nth, List.nil_append, List.cons_append, md, Nat.reducePow, Nat.reduceAdd, Nat.reduceMul]
      refine WL_det rfl (det_move) ?_
      dsimp only [put, List.set, ev, nth, List.nil_append, List.cons_append, md, Nat.reducePow, Nat.reduceAdd, Nat.reduceMul]
      refine WL_det rfl (det_conv' Try.underlying5 Try.underlying24 rfl rfl (by simp only [md]; first | omega | exact Nat.or_lt_two_pow (n := 32) (by omega) (by omega) | exact Nat.lt_of_le_of_lt Nat.and_le_left (by omega) | exact Nat.lt_of_le_of_lt Nat.and_le_right (by omega) | exact Nat.xor_lt_two_pow (n := 32) (by omega) (by omega))) ?_
      dsimp only [put, List.set, ev, nth, List.nil_append, List.cons_append, md, Nat.reducePow, Nat.reduceAdd, Nat.reduceMul]
      refine WL_det rfl (det_idxA Try.underlying76 Try.sizeOf5 rfl rfl (rfl) (by omega)) ?_
      dsimp only [put, List.set, ev, nth, List.nil_append, List.cons_append, md, Nat.reducePow, Nat.reduceAdd, Nat.reduceMul]
      refine WL_chg rfl (chg_storeA 2 Try.sizeOf5 rfl rfl (by omega) rfl) ?_
      rintro _ _ rfl
      dsimp only [put, List.set, ev, nth, List.nil_append, List.cons_append, md, Nat.reducePow, Nat.reduceAdd, Nat.reduceMul]
      refine WL_nil ?_
      refine WC_region ?_
      refine WL_det rfl (det_addi (q := 1) rfl rfl (by omega)) ?_
      dsimp only [put, List.set, ev, nth, List.nil_append, List.cons_append, md, Nat.reducePow, Nat.reduceAdd, Nat.reduceMul]
      refine WL_det rfl (det_move) ?_
      dsimp only [put, List.set, ev, nth, List.nil_append, List.cons_append, md, Nat.reducePow, Nat.reduceAdd, Nat.reduceMul]
      refine WL_nil ?_
      refine ⟨k + 1, ?_, ?_, ?_, ?_⟩
      · rfl
      · rw [upd_fill]
      · omega
      · omega
    · have hc0 := of_decide_eq_false hc0
      refine WC_exit ?_
      refine inB_same ?_
      refine WC_seq ?_
      refine WC_region ?_
      refine WL_det rfl (det_loadWA 2 Try.underlying76 rfl i76 rfl rfl) ?_
      dsimp only [put, List.set, ev, nth, List.nil_append, List.cons_append, md, Nat.reducePow, Nat.reduceAdd, Nat.reduceMul]
      refine WL_chg rfl (chg_storeWA 1 Try.sizeOf76 rfl rfl rfl) ?_
      rintro _ _ rfl
      dsimp only [put, List.set, ev, nth, List.nil_append, List.cons_append, md, Nat.reducePow, Nat.reduceAdd, Nat.reduceMul]
      refine WL_nil ?_
      refine WC_ret ?_
      obtain rfl : k = 17 := by omega
      rw [arr_congr (f := fun i => if i < 17 then byt N i else 0) (g := byt N) (fun i hi => if_pos hi)]
      refine fin_cell 1 Try.results82 rfl rfl Try.underlying76 rfl i76 (arr_size _ _ _) ([]) (List.nil_sublist _) ?_
      exact ⟨rfl, rfl⟩

set_option maxRecDepth 100000 in
set_option maxHeartbeats 400000 in
theorem carry_spec (f : Nat → Nat) (hf : ∀ i, i < 17 → f i ≤ 1000000000) (w : World) :
    Calls Try.prog 90 [.agg (arr .u32 17 f)].toArray w (PostV w (.agg (arr .u32 17 (pt (fold (lev f 17)))))) := by
  have hh := h16_le f hf
  have hdn : dn (lev f 17) ≤ 2500000000 := by unfold dn; omega
  refine calls_of_WC Try.func90 rfl ?_
  simp only [Try.ntmps90, List.length_cons, List.length_nil, Nat.reduceAdd, Nat.reduceSub, List.replicate, List.cons_append, List.nil_append]
  refine WC_seq ?_
  refine WC_region ?_
  refine WL_rel rfl (rel_box rfl rfl) ?_
  rintro _ _ ⟨b0, rfl, rfl⟩
  dsimp only [put, List.set, ev, nth, List.nil_append, List.cons_append, md, Nat.reducePow, Nat.reduceAdd, Nat.reduceMul]
  refine WL_rel rfl (rel_alloc z112 rfl) ?_
  rintro _ _ ⟨b1, rfl, rfl⟩
  dsimp only [put, List.set, ev, nth, List.nil_append, List.cons_append, md, Nat.reducePow, Nat.reduceAdd, Nat.reduceMul]
  refine WL_nil ?_
  refine WC_seq ?_
  refine WC_region ?_
  refine WL_det rfl (det_assign) ?_
  dsimp only [put, List.set, ev, nth, List.nil_append, List.cons_append, md, Nat.reducePow, Nat.reduceAdd, Nat.reduceMul]
  refine WL_nil ?_
  refine WC_seq ?_
  refine WC_seq ?_
  refine WC_region ?_
  refine WL_det rfl (det_move) ?_
  dsimp only [put, List.set, ev, nth, List.nil_append, List.cons_append, md, Nat.reducePow, Nat.reduceAdd, Nat.reduceMul]
  refine WL_nil ?_
  refine WC_block ?_
  refine WC_loopS (ι := Nat) [7, 8, 4, 9, 10, 11, 12, 13, 14, 15, 16, 17, 18, 19, 20] (fun k => [(6, vn .i64 (k)), (3, vn .u32 (cr8 f k))]) (fun k => [(0, (some b0, .cells (arr .u32 17 (cf8 (lev f 17) f k)) 112 (0, 0)))]) (fun k => k ≤ 16) (fun k => 16 - k) 0 ?_ ?_ ?_ ?_
  · rw [cr8_zero]
    try rfl
  · rw [cf8_zero]
    try rfl
  · exact (by omega)
  · intro k g hI
    dsimp only [setAll, setG, setM, List.set]
    have h1 := fun h => hf k h
    have h2 := cr8_le f 1000000000 k (fun p hp => hf p (by omega))
    have h3 := hf k (by omega)
    refine WC_seq ?_
    refine WC_region ?_
    refine WL_det rfl (det_lss (q := 16) rfl rfl) ?_
    dsimp only [put, List.set, ev, nth, List.nil_append, List.cons_append, md, Nat.reducePow, Nat.reduceAdd, Nat.reduceMul]
    refine WL_nil ?_
    refine WC_seq ?_
    refine WC_cond rfl (fun hc0 => ?_) (fun hc0 => ?_)
    · have hc0 := of_decide_eq_true hc0
      refine WC_skip ?_
      refine WC_seq ?_
      refine WC_block ?_
      refine WC_seq ?_
      refine WC_region ?_
      refine WL_det rfl (det_move) ?_
      dsimp only [put, List.set, ev, nth, List.nil_append, List.cons_append, md, Nat.reducePow, Nat.reduceAdd, Nat.reduceMul]
      refine WL_det rfl (det_assign) ?_
      dsimp only [put, List.set, ev, nth, List.nil_append, List.cons_append, md, Nat.reducePow, Nat.reduceAdd, Nat.reduceMul]
      refine WL_nil ?_
      refine WC_seq ?_
      refine WC_region ?_
      refine WL_det rfl (det_move) ?_
      dsimp only [put, List.set, ev, nth, List.nil_append, List.cons_append, md, Nat.reducePow, Nat.reduceAdd, Nat.reduceMul]
      refine WL_det rfl (det_move) ?_
      dsimp only [put, List.set, ev, nth, List.nil_append, List.cons_append, md, Nat.reducePow, Nat.reduceAdd, Nat.reduceMul]
      refine WL_det rfl (det_idxA Try.underlying112 Try.sizeOf24 rfl rfl (rfl) (by omega)) ?_
      dsimp only [put, List.set, ev, nth, List.nil_append, List.cons_append, md, Nat.reducePow, Nat.reduceAdd, Nat.reduceMul]
      refine WL_det rfl (det_loadA 0 Try.isAgg24 rfl rfl (by omega)) ?_
      dsimp only [put, List.set, ev, nth, List.nil_append, List.cons_append, md, Nat.reducePow, Nat.reduceAdd, Nat.reduceMul]
      rw [cf8_at]
      refine WL_det rfl (det_add' rfl rfl rfl (by simp only [md]; omega)) ?_
      dsimp only [put, List.set, ev, nth, List.nil_append, List.cons_append, md, Nat.reducePow, Nat.reduceAdd, Nat.reduceMul]
      refine WL_det rfl (det_assign) ?_
      dsimp only [put, List.set, ev, nth, List.nil_append, List.cons_append, md, Nat.reducePow, Nat.reduceAdd, Nat.reduceMul]
      refine WL_nil ?_
      refine WC_seq ?_
      refine WC_region ?_
      refine WL_det rfl (det_move) ?_
      dsimp only [put, List.set, ev, nth, List.nil_append, List.cons_append, md, Nat.reducePow, Nat.reduceAdd, Nat.reduceMul]
      refine WL_det rfl (det_move) ?_
      dsimp only [put, List.set, ev, nth, List.nil_append, List.cons_append, md, Nat.reducePow, Nat.reduceAdd, Nat.reduceMul]
      refine WL_det rfl (det_and (q := 255) rfl rfl rfl (by simp only [md]; first | omega | exact Nat.or_lt_two_pow (n := 32) (by omega) (by omega) | exact Nat.lt_of_le_of_lt Nat.and_le_left (by omega) | exact Nat.lt_of_le_of_lt Nat.and_le_right (by omega) | exact Nat.xor_lt_two_pow (n := 32) (by omega) (by omega)) (by simp only [md]; first | omega | exact Nat.or_lt_two_pow (n := 32) (by omega) (by omega) | exact Nat.lt_of_le_of_lt Nat.and_le_left (by omega) | exact Nat.lt_of_le_of_lt Nat.and_le_right (by omega) | exact Nat.xor_lt_two_pow (n := 32) (by omega) (by omega))) ?_
      dsimp only [put, List.set, ev, nth, List.nil_append, List.cons_append, md, Nat.reducePow, Nat.reduceAdd, Nat.reduceMul]
      refine WL_det rfl (det_idxA Try.underlying112 Try.sizeOf24 rfl rfl (rfl) (by omega)) ?_
      dsimp only [put, List.set, ev, nth, List.nil_append, List.cons_append, md, Nat.reducePow, Nat.reduceAdd, Nat.reduceMul]
      refine WL_chg rfl (chg_storeA 0 Try.sizeOf24 rfl rfl (by omega) rfl) ?_
      rintro _ _ rfl
      dsimp only [put, List.set, ev, nth, List.nil_append, List.cons_append, md, Nat.reducePow, Nat.reduceAdd, Nat.reduceMul]
      refine WL_nil ?_
      refine WC_region ?_
      refine WL_det rfl (det_move) ?_
      dsimp only [put, List.set, ev, nth, List.nil_append, List.cons_append, md, Nat.reducePow, Nat.reduceAdd, Nat.reduceMul]
      refine WL_det rfl (det_shr (s := 8) rfl rfl (by decide)) ?_
      dsimp only [put, List.set, ev, nth, List.nil_append, List.cons_append, md, Nat.reducePow, Nat.reduceAdd, Nat.reduceMul]
      refine WL_det rfl (det_assign) ?_
      dsimp only [put, List.set, ev, nth, List.nil_append, List.cons_append, md, Nat.reducePow, Nat.reduceAdd, Nat.reduceMul]
      refine WL_nil ?_
      refine WC_region ?_
      refine WL_det rfl (det_addi (q := 1) rfl rfl (by omega)) ?_
      dsimp only [put, List.set, ev, nth, List.nil_append, List.cons_append, md, Nat.reducePow, Nat.reduceAdd, Nat.reduceMul]
      refine WL_det rfl (det_move) ?_
      dsimp only [put, List.set, ev, nth, List.nil_append, List.cons_append, md, Nat.reducePow, Nat.reduceAdd, Nat.reduceMul]
      refine WL_nil ?_
      refine ⟨k + 1, ?_, ?_, ?_, ?_⟩
      · rw [cr8_succ]
        try rfl
      · rw [and_ff, ← cr8_byt f k 17 (by omega), cf8_succ]
        try rfl
      · omega
      · omega
    · have hc0 := of_decide_eq_false hc0
      obtain rfl : k = 16 := by omega
      have h4 := cr8_le f 1000000000 16 (fun p hp => hf p (by omega))
      have h5 := hf 16 (by omega)
      refine WC_exit ?_
      refine inB_same ?_
      refine WC_seq ?_
      refine WC_region ?_
      refine WL_det rfl (det_move) ?_
      dsimp only [put, List.set, ev, nth, List.nil_append, List.cons_append, md, Nat.reducePow, Nat.reduceAdd, Nat.reduceMul]
      refine WL_det rfl (det_idxA (j := 16) Try.underlying112 Try.sizeOf24 rfl rfl (rfl) (by omega)) ?_
      dsimp only [put, List.set, ev, nth, List.nil_append, List.cons_append, md, Nat.reducePow, Nat.reduceAdd, Nat.reduceMul]
      refine WL_det rfl (det_loadA 0 Try.isAgg24 rfl rfl (by omega)) ?_
      dsimp only [put, List.set, ev, nth, List.nil_append, List.cons_append, md, Nat.reducePow, Nat.reduceAdd, Nat.reduceMul]
      rw [cf8_at]
      refine WL_det rfl (det_add' rfl rfl rfl (by simp only [md]; omega)) ?_
      dsimp only [put, List.set, ev, nth, List.nil_append, List.cons_append, md, Nat.reducePow, Nat.reduceAdd, Nat.reduceMul]
      rw [cr8_16]
      refine WL_det rfl (det_assign) ?_
      dsimp only [put, List.set, ev, nth, List.nil_append, List.cons_append, md, Nat.reducePow, Nat.reduceAdd, Nat.reduceMul]
      refine WL_nil ?_
      refine WC_seq ?_
      refine WC_region ?_
      refine WL_det rfl (det_move) ?_
      dsimp only [put, List.set, ev, nth, List.nil_append, List.cons_append, md, Nat.reducePow, Nat.reduceAdd, Nat.reduceMul]
      refine WL_det rfl (det_and (q := 3) rfl rfl rfl (by simp only [md]; first | omega | exact Nat.or_lt_two_pow (n := 32) (by omega) (by omega) | exact Nat.lt_of_le_of_lt Nat.and_le_left (by omega) | exact Nat.lt_of_le_of_lt Nat.and_le_right (by omega) | exact Nat.xor_lt_two_pow (n := 32) (by omega) (by omega)) (by simp only [md]; first | omega | exact Nat.or_lt_two_pow (n := 32) (by omega) (by omega) | exact Nat.lt_of_le_of_lt Nat.and_le_left (by omega) | exact Nat.lt_of_le_of_lt Nat.and_le_right (by omega) | exact Nat.xor_lt_two_pow (n := 32) (by omega) (by omega))) ?_
      dsimp only [put, List.set, ev, nth, List.nil_append, List.cons_append, md, Nat.reducePow, Nat.reduceAdd, Nat.reduceMul]
      refine WL_det rfl (det_idxA (j := 16) Try.underlying112 Try.sizeOf24 rfl rfl (rfl) (by omega)) ?_
      dsimp only [put, List.set, ev, nth, List.nil_append, List.cons_append, md, Nat.reducePow, Nat.reduceAdd, Nat.reduceMul]
      refine WL_chg rfl (chg_storeA 0 Try.sizeOf24 rfl rfl (by omega) rfl) ?_
      rintro _ _ rfl
      dsimp only [put, List.set, ev, nth, List.nil_append, List.cons_append, md, Nat.reducePow, Nat.reduceAdd, Nat.reduceMul]
      refine WL_nil ?_
      refine WC_seq ?_
      refine WC_region ?_
      refine WL_det rfl (det_move) ?_
      dsimp only [put, List.set, ev, nth, List.nil_append, List.cons_append, md, Nat.reducePow, Nat.reduceAdd, Nat.reduceMul]
      refine WL_det rfl (det_shr (s := 2) rfl rfl (by decide)) ?_
      dsimp only [put, List.set, ev, nth, List.nil_append, List.cons_append, md, Nat.reducePow, Nat.reduceAdd, Nat.reduceMul]
      refine WL_det rfl (det_mul' (p := 5) rfl rfl rfl (by simp only [md]; omega)) ?_
      dsimp only [put, List.set, ev, nth, List.nil_append, List.cons_append, md, Nat.reducePow, Nat.reduceAdd, Nat.reduceMul]
      rw [show 5 * (h16 (lev f 17) / 4) = dn (lev f 17) from rfl]
      refine WL_det rfl (det_assign) ?_
      dsimp only [put, List.set, ev, nth, List.nil_append, List.cons_append, md, Nat.reducePow, Nat.reduceAdd, Nat.reduceMul]
      refine WL_nil ?_
      refine WC_seq ?_
      refine WC_seq ?_
      refine WC_region ?_
      refine WL_det rfl (det_move) ?_
      dsimp only [put, List.set, ev, nth, List.nil_append, List.cons_append, md, Nat.reducePow, Nat.reduceAdd, Nat.reduceMul]
      refine WL_nil ?_
      refine WC_block ?_
      refine WC_loopS (ι := Nat) [32, 33, 5, 34, 35, 36, 37, 38, 39, 40, 41, 42, 43, 44, 45] (fun k => [(31, vn .i64 (k)), (3, vn .u32 (ac8 (lev f 17) (dn (lev f 17)) k))]) (fun k => [(0, (some b0, .cells (arr .u32 17 (cg8 (lev f 17) (dn (lev f 17)) k)) 112 (0, 0)))]) (fun k => k ≤ 16) (fun k => 16 - k) 0 ?_ ?_ ?_ ?_
      · rw [ac8_zero]
        try rfl
      · rw [arr_congr (f := cg8 (lev f 17) (dn (lev f 17)) 0) (g := upd (cf8 (lev f 17) f 16) 16 (h16 (lev f 17) &&& 3)) (cg8_init (lev f 17) f)]
        try rfl
      · exact (by omega)
      · intro k g hI
        dsimp only [setAll, setG, setM, List.set]
        have h2 := ac8_le (lev f 17) (dn (lev f 17)) k
        have hb := byt_lt (lev f 17) k
        refine WC_seq ?_
        refine WC_region ?_
        refine WL_det rfl (det_lss (q := 16) rfl rfl) ?_
        dsimp only [put, List.set, ev, nth, List.nil_append, List.cons_append, md, Nat.reducePow, Nat.reduceAdd, Nat.reduceMul]
        refine WL_nil ?_
        refine WC_seq ?_
        refine WC_cond rfl (fun hc1 => ?_) (fun hc1 => ?_)
        · have hc1 := of_decide_eq_true hc1
          refine WC_skip ?_
          refine WC_seq ?_
          refine WC_block ?_
          refine WC_seq ?_
          refine WC_region ?_
          refine WL_det rfl (det_move) ?_
          dsimp only [put, List.set, ev, nth, List.nil_append, List.cons_append, md, Nat.reducePow, Nat.reduceAdd, Nat.reduceMul]
          refine WL_det rfl (det_assign) ?_
          dsimp only [put, List.set, ev, nth, List.nil_append, List.cons_append, md, Nat.reducePow, Nat.reduceAdd, Nat.reduceMul]
          refine WL_nil ?_
          refine WC_seq ?_
          refine WC_region ?_
          refine WL_det rfl (det_move) ?_
          dsimp only [put, List.set, ev, nth, List.nil_append, List.cons_append, md, Nat.reducePow, Nat.reduceAdd, Nat.reduceMul]
          refine WL_det rfl (det_move) ?_
          dsimp only [put, List.set, ev, nth, List.nil_append, List.cons_append, md, Nat.reducePow, Nat.reduceAdd, Nat.reduceMul]
          refine WL_det rfl (det_idxA Try.underlying112 Try.sizeOf24 rfl rfl (rfl) (by omega)) ?_
          dsimp only [put, List.set, ev, nth, List.nil_append, List.cons_append, md, Nat.reducePow, Nat.reduceAdd, Nat.reduceMul]
          refine WL_det rfl (det_loadA 0 Try.isAgg24 rfl rfl (by omega)) ?_
          dsimp only [put, List.set, ev, nth, List.nil_append, List.cons_append, md, Nat.reducePow, Nat.reduceAdd, Nat.reduceMul]
          rw [cg8_at _ _ _ (by omega)]
          refine WL_det rfl (det_add' rfl rfl rfl (by simp only [md]; omega)) ?_
          dsimp only [put, List.set, ev, nth, List.nil_append, List.cons_append, md, Nat.reducePow, Nat.reduceAdd, Nat.reduceMul]
          refine WL_det rfl (det_assign) ?_
          dsimp only [put, List.set, ev, nth, List.nil_append, List.cons_append, md, Nat.reducePow, Nat.reduceAdd, Nat.reduceMul]
          refine WL_nil ?_
          refine WC_seq ?_
          refine WC_region ?_
          refine WL_det rfl (det_move) ?_
          dsimp only [put, List.set, ev, nth, List.nil_append, List.cons_append, md, Nat.reducePow, Nat.reduceAdd, Nat.reduceMul]
          refine WL_det rfl (det_move) ?_
          dsimp only [put, List.set, ev, nth, List.nil_append, List.cons_append, md, Nat.reducePow, Nat.reduceAdd, Nat.reduceMul]
          refine WL_det rfl (det_and (q := 255) rfl rfl rfl (by simp only [md]; first | omega | exact Nat.or_lt_two_pow (n := 32) (by omega) (by omega) | exact Nat.lt_of_le_of_lt Nat.and_le_left (by omega) | exact Nat.lt_of_le_of_lt Nat.and_le_right (by omega) | exact Nat.xor_lt_two_pow (n := 32) (by omega) (by omega)) (by simp only [md]; first | omega | exact Nat.or_lt_two_pow (n := 32) (by omega) (by omega) | exact Nat.lt_of_le_of_lt Nat.and_le_left (by omega) | exact Nat.lt_of_le_of_lt Nat.and_le_right (by omega) | exact Nat.xor_lt_two_pow (n := 32) (by omega) (by omega))) ?_
          dsimp only [put, List.set, ev, nth, List.nil_append, List.cons_append, md, Nat.reducePow, Nat.reduceAdd, Nat.reduceMul]
          refine WL_det rfl (det_idxA Try.underlying112 Try.sizeOf24 rfl rfl (rfl) (by omega)) ?_
          dsimp only [put, List.set, ev, nth, List.nil_append, List.cons_append, md, Nat.reducePow, Nat.reduceAdd, Nat.reduceMul]
          refine WL_chg rfl (chg_storeA 0 Try.sizeOf24 rfl rfl (by omega) rfl) ?_
          rintro _ _ rfl
          dsimp only [put, List.set, ev, nth, List.nil_append, List.cons_append, md, Nat.reducePow, Nat.reduceAdd, Nat.reduceMul]
          refine WL_nil ?_
          refine WC_region ?_
          refine WL_det rfl (det_move) ?_
          dsimp only [put, List.set, ev, nth, List.nil_append, List.cons_append, md, Nat.reducePow, Nat.reduceAdd, Nat.reduceMul]
          refine WL_det rfl (det_shr (s := 8) rfl rfl (by decide)) ?_
          dsimp only [put, List.set, ev, nth, List.nil_append, List.cons_append, md, Nat.reducePow, Nat.reduceAdd, Nat.reduceMul]
          refine WL_det rfl (det_assign) ?_
          dsimp only [put, List.set, ev, nth, List.nil_append, List.cons_append, md, Nat.reducePow, Nat.reduceAdd, Nat.reduceMul]
          refine WL_nil ?_
          refine WC_region ?_
          refine WL_det rfl (det_addi (q := 1) rfl rfl (by omega)) ?_
          dsimp only [put, List.set, ev, nth, List.nil_append, List.cons_append, md, Nat.reducePow, Nat.reduceAdd, Nat.reduceMul]
          refine WL_det rfl (det_move) ?_
          dsimp only [put, List.set, ev, nth, List.nil_append, List.cons_append, md, Nat.reducePow, Nat.reduceAdd, Nat.reduceMul]
          refine WL_nil ?_
          refine ⟨k + 1, ?_, ?_, ?_, ?_⟩
          · rw [ac8_succ]
            try rfl
          · rw [and_ff, ac8_byt, cg8_succ]
            try rfl
          · omega
          · omega
        · have hc1 := of_decide_eq_false hc1
          obtain rfl : k = 16 := by omega
          have h6 := ac8_le (lev f 17) (dn (lev f 17)) 16
          refine WC_exit ?_
          refine inB_same ?_
          refine WC_seq ?_
          refine WC_region ?_
          refine WL_det rfl (det_idxA (j := 16) Try.underlying112 Try.sizeOf24 rfl rfl (rfl) (by omega)) ?_
          dsimp only [put, List.set, ev, nth, List.nil_append, List.cons_append, md, Nat.reducePow, Nat.reduceAdd, Nat.reduceMul]
          refine WL_det rfl (det_loadA 0 Try.isAgg24 rfl rfl (by omega)) ?_
          dsimp only [put, List.set, ev, nth, List.nil_append, List.cons_append, md, Nat.reducePow, Nat.reduceAdd, Nat.reduceMul]
          rw [cg8_16]
          refine WL_det rfl (det_move) ?_
          dsimp only [put, List.set, ev, nth, List.nil_append, List.cons_append, md, Nat.reducePow, Nat.reduceAdd, Nat.reduceMul]
          refine WL_det rfl (det_add' rfl rfl rfl (by simp only [md]; omega)) ?_
          dsimp only [put, List.set, ev, nth, List.nil_append, List.cons_append, md, Nat.reducePow, Nat.reduceAdd, Nat.reduceMul]
          refine WL_det rfl (det_idxA (j := 16) Try.underlying112 Try.sizeOf24 rfl rfl (rfl) (by omega)) ?_
          dsimp only [put, List.set, ev, nth, List.nil_append, List.cons_append, md, Nat.reducePow, Nat.reduceAdd, Nat.reduceMul]
          refine WL_chg rfl (chg_storeA 0 Try.sizeOf24 rfl rfl (by omega) rfl) ?_
          rintro _ _ rfl
          dsimp only [put, List.set, ev, nth, List.nil_append, List.cons_append, md, Nat.reducePow, Nat.reduceAdd, Nat.reduceMul]
          refine WL_nil ?_
          refine WC_seq ?_
          refine WC_region ?_
          refine WL_det rfl (det_loadWA 0 Try.underlying112 rfl i112 rfl rfl) ?_
          dsimp only [put, List.set, ev, nth, List.nil_append, List.cons_append, md, Nat.reducePow, Nat.reduceAdd, Nat.reduceMul]
          refine WL_chg rfl (chg_storeWA 1 Try.sizeOf112 rfl rfl rfl) ?_
          rintro _ _ rfl
          dsimp only [put, List.set, ev, nth, List.nil_append, List.cons_append, md, Nat.reducePow, Nat.reduceAdd, Nat.reduceMul]
          refine WL_nil ?_
          refine WC_ret ?_
          rw [arr_congr (g := pt (fold (lev f 17))) (cg8_end (lev f 17))]
          refine fin_cell 1 Try.results90 rfl rfl Try.underlying112 rfl i112 (arr_size _ _ _) ([]) (List.nil_sublist _) ?_
          exact ⟨rfl, rfl⟩

set_option maxRecDepth 100000 in
set_option maxHeartbeats 400000 in
theorem sum_spec (f g : Nat → Nat) (hf : ∀ i, i < 17 → f i ≤ 1000000000) (hg : ∀ i, i < 17 → g i ≤ 1000000000) (w : World) :
    Calls Try.prog 78 [.agg (arr .u32 17 f), .agg (arr .u32 17 g)].toArray w (PostV w (.agg (arr .u32 17 (byt (lev f 17 + lev g 17))))) := by
  refine calls_of_WC Try.func78 rfl ?_
  simp only [Try.ntmps78, List.length_cons, List.length_nil, Nat.reduceAdd, Nat.reduceSub, List.replicate, List.cons_append, List.nil_append]
  refine WC_seq ?_
  refine WC_region ?_
  refine WL_rel rfl (rel_box rfl rfl) ?_
  rintro _ _ ⟨b0, rfl, rfl⟩
  dsimp only [put, List.set, ev, nth, List.nil_append, List.cons_append, md, Nat.reducePow, Nat.reduceAdd, Nat.reduceMul]
  refine WL_rel rfl (rel_box rfl rfl) ?_
  rintro _ _ ⟨b1, rfl, rfl⟩
  dsimp only [put, List.set, ev, nth, List.nil_append, List.cons_append, md, Nat.reducePow, Nat.reduceAdd, Nat.reduceMul]
  refine WL_rel rfl (rel_alloc z112 rfl) ?_
  rintro _ _ ⟨b2, rfl, rfl⟩
  dsimp only [put, List.set, ev, nth, List.nil_append, List.cons_append, md, Nat.reducePow, Nat.reduceAdd, Nat.reduceMul]
  refine WL_nil ?_
  refine WC_seq ?_
  refine WC_region ?_
  refine WL_det rfl (det_assign) ?_
  dsimp only [put, List.set, ev, nth, List.nil_append, List.cons_append, md, Nat.reducePow, Nat.reduceAdd, Nat.reduceMul]
  refine WL_nil ?_
  refine WC_seq ?_
  refine WC_seq ?_
  refine WC_region ?_
  refine WL_det rfl (det_move) ?_
  dsimp only [put, List.set, ev, nth, List.nil_append, List.cons_append, md, Nat.reducePow, Nat.reduceAdd, Nat.reduceMul]
  refine WL_nil ?_
  refine WC_block ?_
  refine WC_loopS (ι := Nat) [8, 9, 6, 10, 11, 12, 13, 14, 15, 16, 17, 18, 19, 20, 21, 22, 23, 24, 25] (fun k => [(7, vn .i64 (k)), (5, vn .u32 (cr8 (fun i => f i + g i) k))]) (fun k => [(0, (some b0, .cells (arr .u32 17 (cf8 (lev f 17 + lev g 17) f k)) 112 (0, 0)))]) (fun k => k ≤ 17) (fun k => 17 - k) 0 ?_ ?_ ?_ ?_
  · rw [cr8_zero]
    try rfl
  · rw [cf8_zero]
    try rfl
  · exact (by omega)
  · intro k g' hI
    dsimp only [setAll, setG, setM, List.set]
    have h2 := cr8_le (fun i => f i + g i) 2000000000 k (fun p hp => by have := hf p (by omega); have := hg p (by omega); omega)
    have h1 := fun h => hf k h
    have h3 := fun h => hg k h
    refine WC_seq ?_
    refine WC_region ?_
    refine WL_det rfl (det_lss (q := 17) rfl rfl) ?_
    dsimp only [put, List.set, ev, nth, List.nil_append, List.cons_append, md, Nat.reducePow, Nat.reduceAdd, Nat.reduceMul]
    refine WL_nil ?_
    refine WC_seq ?_
    refine WC_cond rfl (fun hc0 => ?_) (fun hc0 => ?_)
    · have hc0 := of_decide_eq_true hc0
      have h1 := hf k (by omega)
      have h3 := hg k (by omega)
      refine WC_skip ?_
      refine WC_seq ?_
      refine WC_block ?_
      refine WC_seq ?_
      refine WC_region ?_
      refine WL_det rfl (det_move) ?_
      dsimp only [put, List.set, ev, nth, List.nil_append, List.cons_append, md, Nat.reducePow, Nat.reduceAdd, Nat.reduceMul]
      refine WL_det rfl (det_assign) ?_
      dsimp only [put, List.set, ev, nth, List.nil_append, List.cons_append, md, Nat.reducePow, Nat.reduceAdd, Nat.reduceMul]
      refine WL_nil ?_
      refine WC_seq ?_
      refine WC_draw [[], [], [1], [1, 2], [], [4], [4, 5], [1, 2, 3, 4, 5, 6], [0, 1, 2, 3, 4, 5, 6, 7], [0, 1, 2, 3, 4, 5, 6, 7, 8]] [] 27 [] (List.nil_sublist _) mixed rfl (by decide) ?_
      refine RW.pure rfl rfl (fun _ => rfl) (fun V hV => det_move) (fun _ _ _ => rfl) ?_
      dsimp only [put, List.set, ev, nth, List.nil_append, List.cons_append, md, Nat.reducePow, Nat.reduceAdd, Nat.reduceMul]
      refine RW.pure rfl rfl (fun _ => rfl) (fun V hV => det_move) (fun _ _ _ => rfl) ?_
      dsimp only [put, List.set, ev, nth, List.nil_append, List.cons_append, md, Nat.reducePow, Nat.reduceAdd, Nat.reduceMul]
      refine RW.pure rfl rfl (fun _ => rfl) (fun V hV => det_idxA Try.underlying112 Try.sizeOf24 rfl rfl (rfl) (by omega)) (fun _ _ _ => rfl) ?_
      dsimp only [put, List.set, ev, nth, List.nil_append, List.cons_append, md, Nat.reducePow, Nat.reduceAdd, Nat.reduceMul]
      refine RW.det [] rfl rfl rfl rfl (fun _ => rfl) (fun V hV => Det.rel (det_loadA 0 Try.isAgg24 rfl rfl (by omega))) (fun _ _ _ => rfl) ?_
      dsimp only [put, List.set, ev, nth, List.nil_append, List.cons_append, md, Nat.reducePow, Nat.reduceAdd, Nat.reduceMul]
      rw [cf8_at]
      refine RW.pure rfl rfl (fun _ => rfl) (fun V hV => det_move) (fun _ _ _ => rfl) ?_
      dsimp only [put, List.set, ev, nth, List.nil_append, List.cons_append, md, Nat.reducePow, Nat.reduceAdd, Nat.reduceMul]
      refine RW.pure rfl rfl (fun _ => rfl) (fun V hV => det_idxA Try.underlying112 Try.sizeOf24 rfl rfl (rfl) (by omega)) (fun _ _ _ => rfl) ?_
      dsimp only [put, List.set, ev, nth, List.nil_append, List.cons_append, md, Nat.reducePow, Nat.reduceAdd, Nat.reduceMul]
      refine RW.det [] rfl rfl rfl rfl (fun _ => rfl) (fun V hV => Det.rel (det_loadA 1 Try.isAgg24 rfl rfl (by omega))) (fun _ _ _ => rfl) ?_
      dsimp only [put, List.set, ev, nth, List.nil_append, List.cons_append, md, Nat.reducePow, Nat.reduceAdd, Nat.reduceMul]
      refine RW.pure rfl rfl (fun _ => rfl) (fun V hV => det_add' rfl rfl rfl (by simp only [md]; omega)) (fun _ _ _ => rfl) ?_
      dsimp only [put, List.set, ev, nth, List.nil_append, List.cons_append, md, Nat.reducePow, Nat.reduceAdd, Nat.reduceMul]
      refine RW.pure rfl rfl (fun _ => rfl) (fun V hV => det_add' rfl rfl rfl (by simp only [md]; omega)) (fun _ _ _ => rfl) ?_
      dsimp only [put, List.set, ev, nth, List.nil_append, List.cons_append, md, Nat.reducePow, Nat.reduceAdd, Nat.reduceMul]
      refine RW.pure rfl rfl (fun _ => rfl) (fun V hV => det_assign) (fun _ _ _ => rfl) ?_
      dsimp only [put, List.set, ev, nth, List.nil_append, List.cons_append, md, Nat.reducePow, Nat.reduceAdd, Nat.reduceMul]
      refine RW.done (fun V => _ ++ flat [] V) rfl rfl (fun _ => rfl) (fun V hV => ?_)
      try dsimp only [put, blk, flat_nil, List.append_nil, List.append, List.eraseIdx, List.set, ev, nth, List.nil_append, List.cons_append, md, Nat.reducePow, Nat.reduceAdd, Nat.reduceMul]
      refine WC_seq ?_
      refine WC_region ?_
      refine WL_det rfl (det_move) ?_
      dsimp only [put, List.set, ev, nth, List.nil_append, List.cons_append, md, Nat.reducePow, Nat.reduceAdd, Nat.reduceMul]
      refine WL_det rfl (det_move) ?_
      dsimp only [put, List.set, ev, nth, List.nil_append, List.cons_append, md, Nat.reducePow, Nat.reduceAdd, Nat.reduceMul]
      refine WL_det rfl (det_and (q := 255) rfl rfl rfl (by simp only [md]; first | omega | exact Nat.or_lt_two_pow (n := 32) (by omega) (by omega) | exact Nat.lt_of_le_of_lt Nat.and_le_left (by omega) | exact Nat.lt_of_le_of_lt Nat.and_le_right (by omega) | exact Nat.xor_lt_two_pow (n := 32) (by omega) (by omega)) (by simp only [md]; first | omega | exact Nat.or_lt_two_pow (n := 32) (by omega) (by omega) | exact Nat.lt_of_le_of_lt Nat.and_le_left (by omega) | exact Nat.lt_of_le_of_lt Nat.and_le_right (by omega) | exact Nat.xor_lt_two_pow (n := 32) (by omega) (by omega))) ?_
      dsimp only [put, List.set, ev, nth, List.nil_append, List.cons_append, md, Nat.reducePow, Nat.reduceAdd, Nat.reduceMul]
      refine WL_det rfl (det_idxA Try.underlying112 Try.sizeOf24 rfl rfl (rfl) (by omega)) ?_
      dsimp only [put, List.set, ev, nth, List.nil_append, List.cons_append, md, Nat.reducePow, Nat.reduceAdd, Nat.reduceMul]
      refine WL_chg rfl (chg_storeA 0 Try.sizeOf24 rfl rfl (by omega) rfl) ?_
      rintro _ _ rfl
      dsimp only [put, List.set, ev, nth, List.nil_append, List.cons_append, md, Nat.reducePow, Nat.reduceAdd, Nat.reduceMul]
      refine WL_nil ?_
      refine WC_region ?_
      refine WL_det rfl (det_move) ?_
      dsimp only [put, List.set, ev, nth, List.nil_append, List.cons_append, md, Nat.reducePow, Nat.reduceAdd, Nat.reduceMul]
      refine WL_det rfl (det_shr (s := 8) rfl rfl (by decide)) ?_
      dsimp only [put, List.set, ev, nth, List.nil_append, List.cons_append, md, Nat.reducePow, Nat.reduceAdd, Nat.reduceMul]
      refine WL_det rfl (det_assign) ?_
      dsimp only [put, List.set, ev, nth, List.nil_append, List.cons_append, md, Nat.reducePow, Nat.reduceAdd, Nat.reduceMul]
      refine WL_nil ?_
      refine WC_region ?_
      refine WL_det rfl (det_addi (q := 1) rfl rfl (by omega)) ?_
      dsimp only [put, List.set, ev, nth, List.nil_append, List.cons_append, md, Nat.reducePow, Nat.reduceAdd, Nat.reduceMul]
      refine WL_det rfl (det_move) ?_
      dsimp only [put, List.set, ev, nth, List.nil_append, List.cons_append, md, Nat.reducePow, Nat.reduceAdd, Nat.reduceMul]
      refine WL_nil ?_
      refine ⟨k + 1, ?_, ?_, ?_, ?_⟩
      · rw [sum8_succ]
        try rfl
      · rw [and_ff, sum8_byt f g k (by omega), cf8_succ]
        try rfl
      · omega
      · omega
    · have hc0 := of_decide_eq_false hc0
      refine WC_exit ?_
      refine inB_same ?_
      refine WC_seq ?_
      refine WC_region ?_
      refine WL_det rfl (det_loadWA 0 Try.underlying112 rfl i112 rfl rfl) ?_
      dsimp only [put, List.set, ev, nth, List.nil_append, List.cons_append, md, Nat.reducePow, Nat.reduceAdd, Nat.reduceMul]
      refine WL_chg rfl (chg_storeWA 2 Try.sizeOf112 rfl rfl rfl) ?_
      rintro _ _ rfl
      dsimp only [put, List.set, ev, nth, List.nil_append, List.cons_append, md, Nat.reducePow, Nat.reduceAdd, Nat.reduceMul]
      refine WL_nil ?_
      refine WC_ret ?_
      obtain rfl : k = 17 := by omega
      rw [arr_congr (f := cf8 (lev f 17 + lev g 17) f 17) (g := byt (lev f 17 + lev g 17)) (fun i hi => if_pos hi)]
      refine fin_cell 2 Try.results78 rfl rfl Try.underlying112 rfl i112 (arr_size _ _ _) ([]) (List.nil_sublist _) ?_
      exact ⟨rfl, rfl⟩

end Go.Proofs.Ytpmldkhgdpchjaa

set_option linter.unusedVariables false
namespace Go.Proofs.Ytpmldkhgdpchjaa
open Go.MW
set_option maxRecDepth 100000 in
set_option maxHeartbeats 400000 in
theorem reduced_spec (f : Nat → Nat) (hf : ∀ i, i < 17 → f i ≤ 1000000000) (w : World) :
    Calls Try.prog 77 [.agg (arr .u32 17 f)].toArray w (PostV w (.agg (arr .u32 17 (byt (lev f 17 % Pp))))) := by
  have hX1 := fold_lt f hf
  obtain ⟨X, hX⟩ : ∃ X, X = fold (fold (lev f 17)) := ⟨_, rfl⟩
  have hX2 : X < 2 ^ 130 := by rw [hX]; exact fold2_lt hX1
  have hXm : X % Pp = lev f 17 % Pp := by rw [hX, fold_mod, fold_mod]
  have hXt : ∀ i, i < 17 → pt X i ≤ 1000000000 := fun i _ => pt_le (M := 1000000000) (by omega) (by decide)
  refine calls_of_WC Try.func77 rfl ?_
  simp only [Try.ntmps77, List.length_cons, List.length_nil, Nat.reduceAdd, Nat.reduceSub, List.replicate, List.cons_append, List.nil_append]
  refine WC_seq ?_
  refine WC_region ?_
  refine WL_rel rfl (rel_box rfl rfl) ?_
  rintro _ _ ⟨b0, rfl, rfl⟩
  dsimp only [put, List.set, ev, nth, List.nil_append, List.cons_append, md, Nat.reducePow, Nat.reduceAdd, Nat.reduceMul]
  refine WL_rel rfl (rel_alloc z112 rfl) ?_
  rintro _ _ ⟨b1, rfl, rfl⟩
  dsimp only [put, List.set, ev, nth, List.nil_append, List.cons_append, md, Nat.reducePow, Nat.reduceAdd, Nat.reduceMul]
  refine WL_nil ?_
  refine WC_seq ?_
  refine WC_region ?_
  refine WL_det rfl (det_loadWA 0 Try.underlying112 rfl i112 rfl rfl) ?_
  dsimp only [put, List.set, ev, nth, List.nil_append, List.cons_append, md, Nat.reducePow, Nat.reduceAdd, Nat.reduceMul]
  refine WL_rel rfl (Rel_call rfl Try.call90 (fun w hw => carry_spec f hf w)) ?_
  rintro _ _ ⟨rfl, rfl⟩
  dsimp only [put, List.append_nil, List.set, ev, nth, List.nil_append, List.cons_append, md, Nat.reducePow, Nat.reduceAdd, Nat.reduceMul]
  refine WL_rel rfl (Rel_call rfl Try.call90 (fun w hw => carry_spec (pt (fold (lev f 17))) (fun i _ => pt_le (M := 1000000000) (by have := top_le hX1; omega) (by decide)) w)) ?_
  rintro _ _ ⟨rfl, rfl⟩
  dsimp only [put, List.append_nil, List.set, ev, nth, List.nil_append, List.cons_append, md, Nat.reducePow, Nat.reduceAdd, Nat.reduceMul]
  rw [lev_pt, ← hX]
  refine WL_chg rfl (chg_storeWA 0 Try.sizeOf112 rfl rfl rfl) ?_
  rintro _ _ rfl
  dsimp only [put, List.set, ev, nth, List.nil_append, List.cons_append, md, Nat.reducePow, Nat.reduceAdd, Nat.reduceMul]
  refine WL_nil ?_
  refine WC_seq ?_
  refine WC_region ?_
  refine WL_det rfl (det_loadWA 0 Try.underlying112 rfl i112 rfl rfl) ?_
  dsimp only [put, List.set, ev, nth, List.nil_append, List.cons_append, md, Nat.reducePow, Nat.reduceAdd, Nat.reduceMul]
  refine WL_det (v := .agg (arr .u32 17 lp)) rfl (fun w _ => by kernel_rfl) ?_
  dsimp only [put, List.set, ev, nth, List.nil_append, List.cons_append, md, Nat.reducePow, Nat.reduceAdd, Nat.reduceMul]
  refine WL_rel rfl (Rel_call rfl Try.call78 (fun w hw => sum_spec (pt X) lp hXt (fun i _ => by have := lp_le i; omega) w)) ?_
  rintro _ _ ⟨rfl, rfl⟩
  dsimp only [put, List.append_nil, List.set, ev, nth, List.nil_append, List.cons_append, md, Nat.reducePow, Nat.reduceAdd, Nat.reduceMul]
  rw [lev_pt, show lev lp 17 = cP from lev_lp]
  refine WL_rel rfl (rel_alloc z112 rfl) ?_
  rintro _ _ ⟨b2, rfl, rfl⟩
  dsimp only [put, List.set, ev, nth, List.nil_append, List.cons_append, md, Nat.reducePow, Nat.reduceAdd, Nat.reduceMul]
  refine WL_chg rfl (chg_storeWA 2 Try.sizeOf112 rfl rfl rfl) ?_
  rintro _ _ rfl
  dsimp only [put, List.set, ev, nth, List.nil_append, List.cons_append, md, Nat.reducePow, Nat.reduceAdd, Nat.reduceMul]
  refine WL_nil ?_
  refine WC_seq ?_
  refine WC_seq ?_
  refine WC_region ?_
  refine WL_det rfl (det_idxA (j := 16) Try.underlying112 Try.sizeOf24 rfl rfl (rfl) (by omega)) ?_
  dsimp only [put, List.set, ev, nth, List.nil_append, List.cons_append, md, Nat.reducePow, Nat.reduceAdd, Nat.reduceMul]
  refine WL_det rfl (det_loadA 2 Try.isAgg24 rfl rfl (by omega)) ?_
  dsimp only [put, List.set, ev, nth, List.nil_append, List.cons_append, md, Nat.reducePow, Nat.reduceAdd, Nat.reduceMul]
  have hb16 := byt_lt (X + cP) 16
  refine WL_det rfl (det_and (q := 128) rfl rfl rfl (by simp only [md]; first | omega | exact Nat.or_lt_two_pow (n := 32) (by omega) (by omega) | exact Nat.lt_of_le_of_lt Nat.and_le_left (by omega) | exact Nat.lt_of_le_of_lt Nat.and_le_right (by omega) | exact Nat.xor_lt_two_pow (n := 32) (by omega) (by omega)) (by simp only [md]; first | omega | exact Nat.or_lt_two_pow (n := 32) (by omega) (by omega) | exact Nat.lt_of_le_of_lt Nat.and_le_left (by omega) | exact Nat.lt_of_le_of_lt Nat.and_le_right (by omega) | exact Nat.xor_lt_two_pow (n := 32) (by omega) (by omega))) ?_
  dsimp only [put, List.set, ev, nth, List.nil_append, List.cons_append, md, Nat.reducePow, Nat.reduceAdd, Nat.reduceMul]
  refine WL_det rfl (det_eql (q := 0) rfl rfl) ?_
  dsimp only [put, List.set, ev, nth, List.nil_append, List.cons_append, md, Nat.reducePow, Nat.reduceAdd, Nat.reduceMul]
  refine WL_nil ?_
  refine WC_cond rfl (fun hc0 => ?_) (fun hc0 => ?_)
  · have hc0 := of_decide_eq_true hc0
    have hge : Pp ≤ X := by have h1 := and128 _ hb16; rw [decide_eq_true hc0] at h1; have h2 := h1.trans (red_top hX2); exact of_decide_eq_true h2.symm
    rw [arr_congr (f := byt (X + cP)) (g := byt (X % Pp)) (red_ge hX2 hge), hXm]
    refine WC_seq ?_
    refine WC_region ?_
    refine WL_det rfl (det_loadWA 2 Try.underlying112 rfl i112 rfl rfl) ?_
    dsimp only [put, List.set, ev, nth, List.nil_append, List.cons_append, md, Nat.reducePow, Nat.reduceAdd, Nat.reduceMul]
    refine WL_chg rfl (chg_storeWA 1 Try.sizeOf112 rfl rfl rfl) ?_
    rintro _ _ rfl
    dsimp only [put, List.set, ev, nth, List.nil_append, List.cons_append, md, Nat.reducePow, Nat.reduceAdd, Nat.reduceMul]
    refine WL_nil ?_
    refine WC_ret ?_
    refine fin_cell 1 Try.results77 rfl rfl Try.underlying112 rfl i112 (arr_size _ _ _) ([]) (List.nil_sublist _) ?_
    exact ⟨rfl, rfl⟩
  · have hc0 := of_decide_eq_false hc0
    have hlt : ¬ Pp ≤ X := by have h1 := and128 _ hb16; rw [decide_eq_false hc0] at h1; have h2 := h1.trans (red_top hX2); exact of_decide_eq_false h2.symm
    rw [arr_congr (f := pt X) (g := byt (X % Pp)) (fun i hi => by rw [Nat.mod_eq_of_lt (by omega)]; exact pt_byt hX2 i hi), hXm]
    refine WC_skip ?_
    refine WC_seq ?_
    refine WC_region ?_
    refine WL_det rfl (det_loadWA 0 Try.underlying112 rfl i112 rfl rfl) ?_
    dsimp only [put, List.set, ev, nth, List.nil_append, List.cons_append, md, Nat.reducePow, Nat.reduceAdd, Nat.reduceMul]
    refine WL_chg rfl (chg_storeWA 1 Try.sizeOf112 rfl rfl rfl) ?_
    rintro _ _ rfl
    dsimp only [put, List.set, ev, nth, List.nil_append, List.cons_append, md, Nat.reducePow, Nat.reduceAdd, Nat.reduceMul]
    refine WL_nil ?_
    refine WC_ret ?_
    refine fin_cell 1 Try.results77 rfl rfl Try.underlying112 rfl i112 (arr_size _ _ _) ([]) (List.nil_sublist _) ?_
    exact ⟨rfl, rfl⟩

set_option maxRecDepth 100000 in
set_option maxHeartbeats 400000 in
theorem product_spec (f g : Nat → Nat) (hf : ∀ i, i < 17 → f i ≤ 600) (hg : ∀ i, g i ≤ 255) (w : World) :
    Calls Try.prog 76 [.agg (arr .u32 17 f), .agg (arr .u32 17 g)].toArray w (PostV w (.agg (arr .u32 17 (pt (fold (lev (fun p => prd f g p 17) 17)))))) := by
  refine calls_of_WC Try.func76 rfl ?_
  simp only [Try.ntmps76, List.length_cons, List.length_nil, Nat.reduceAdd, Nat.reduceSub, List.replicate, List.cons_append, List.nil_append]
  refine WC_seq ?_
  refine WC_region ?_
  refine WL_rel rfl (rel_box rfl rfl) ?_
  rintro _ _ ⟨b0, rfl, rfl⟩
  dsimp only [put, List.set, ev, nth, List.nil_append, List.cons_append, md, Nat.reducePow, Nat.reduceAdd, Nat.reduceMul]
  refine WL_rel rfl (rel_box rfl rfl) ?_
  rintro _ _ ⟨b1, rfl, rfl⟩
  dsimp only [put, List.set, ev, nth, List.nil_append, List.cons_append, md, Nat.reducePow, Nat.reduceAdd, Nat.reduceMul]
  refine WL_rel rfl (rel_alloc z112 rfl) ?_
  rintro _ _ ⟨b2, rfl, rfl⟩
  dsimp only [put, List.set, ev, nth, List.nil_append, List.cons_append, md, Nat.reducePow, Nat.reduceAdd, Nat.reduceMul]
  refine WL_nil ?_
  refine WC_seq ?_
  refine WC_region ?_
  refine WL_rel rfl (rel_alloc z112 rfl) ?_
  rintro _ _ ⟨b3, rfl, rfl⟩
  dsimp only [put, List.set, ev, nth, List.nil_append, List.cons_append, md, Nat.reducePow, Nat.reduceAdd, Nat.reduceMul]
  refine WL_nil ?_
  refine WC_seq ?_
  refine WC_seq ?_
  refine WC_region ?_
  refine WL_det rfl (det_move) ?_
  dsimp only [put, List.set, ev, nth, List.nil_append, List.cons_append, md, Nat.reducePow, Nat.reduceAdd, Nat.reduceMul]
  refine WL_nil ?_
  refine WC_block ?_
  refine WC_loopS (ι := Nat) [10, 11, 6, 12, 13, 14, 15, 16, 7, 8, 17, 18, 19, 20, 21, 22, 23, 24, 25, 26, 27, 28, 29, 30, 31, 32, 33, 34, 35, 36, 37, 38, 39, 40, 41, 42, 43, 44, 45, 46, 47] (fun i => [(9, vn .i64 (i))]) (fun i => [(3, (some b3, .cells (arr .u32 17 (pf f g i 0)) 112 (0, 0)))]) (fun i => i ≤ 17) (fun i => 17 - i) 0 ?_ ?_ ?_ ?_
  · rfl
  · rw [pf_zero]
    try rfl
  · exact (by omega)
  · intro i g' hI
    dsimp only [setAll, setG, setM, List.set]
    refine WC_seq ?_
    refine WC_region ?_
    refine WL_det rfl (det_lss (q := 17) rfl rfl) ?_
    dsimp only [put, List.set, ev, nth, List.nil_append, List.cons_append, md, Nat.reducePow, Nat.reduceAdd, Nat.reduceMul]
    refine WL_nil ?_
    refine WC_seq ?_
    refine WC_cond rfl (fun hc0 => ?_) (fun hc0 => ?_)
    · have hc0 := of_decide_eq_true hc0
      refine WC_skip ?_
      refine WC_seq ?_
      refine WC_block ?_
      refine WC_seq ?_
      refine WC_region ?_
      refine WL_det rfl (det_move) ?_
      dsimp only [put, List.set, ev, nth, List.nil_append, List.cons_append, md, Nat.reducePow, Nat.reduceAdd, Nat.reduceMul]
      refine WL_det rfl (det_assign) ?_
      dsimp only [put, List.set, ev, nth, List.nil_append, List.cons_append, md, Nat.reducePow, Nat.reduceAdd, Nat.reduceMul]
      refine WL_nil ?_
      refine WC_seq ?_
      refine WC_region ?_
      refine WL_det rfl (det_loadWA 0 Try.underlying112 rfl i112 rfl rfl) ?_
      dsimp only [put, List.set, ev, nth, List.nil_append, List.cons_append, md, Nat.reducePow, Nat.reduceAdd, Nat.reduceMul]
      refine WL_det rfl (det_move) ?_
      dsimp only [put, List.set, ev, nth, List.nil_append, List.cons_append, md, Nat.reducePow, Nat.reduceAdd, Nat.reduceMul]
      refine WL_nil ?_
      refine WC_block ?_
      refine WC_loopS (ι := Nat) [14, 15, 16, 7, 8, 17, 18, 19, 20, 21, 22, 23, 24, 25, 26, 27, 28, 29, 30, 31, 32, 33, 34, 35, 36, 37, 38, 39, 40, 41, 42, 43, 44, 45, 46] (fun j => [(13, vn .i64 (j))]) (fun j => [(3, (some b3, .cells (arr .u32 17 (pf f g i j)) 112 (0, 0)))]) (fun j => j ≤ 17) (fun j => 17 - j) 0 ?_ ?_ ?_ ?_
      · rfl
      · rfl
      · exact (by omega)
      · intro j g' hI
        dsimp only [setAll, setG, setM, List.set]
        have hpb : pf f g i j i ≤ j * 48960000 := by rw [pf_at]; exact prd_le f g i j hf hg (by omega)
        refine WC_seq ?_
        refine WC_region ?_
        refine WL_det rfl (det_lss (q := 17) rfl rfl) ?_
        dsimp only [put, List.set, ev, nth, List.nil_append, List.cons_append, md, Nat.reducePow, Nat.reduceAdd, Nat.reduceMul]
        refine WL_nil ?_
        refine WC_seq ?_
        refine WC_cond rfl (fun hc1 => ?_) (fun hc1 => ?_)
        · have hc1 := of_decide_eq_true hc1
          refine WC_skip ?_
          refine WC_seq ?_
          refine WC_block ?_
          refine WC_seq ?_
          refine WC_region ?_
          refine WL_det rfl (det_move) ?_
          dsimp only [put, List.set, ev, nth, List.nil_append, List.cons_append, md, Nat.reducePow, Nat.reduceAdd, Nat.reduceMul]
          refine WL_det rfl (det_index Try.underlying112 Try.sizeOf24 Try.isAgg24 rfl rfl rfl (by omega)) ?_
          dsimp only [put, List.set, ev, nth, List.nil_append, List.cons_append, md, Nat.reducePow, Nat.reduceAdd, Nat.reduceMul]
          refine WL_det rfl (det_assign) ?_
          dsimp only [put, List.set, ev, nth, List.nil_append, List.cons_append, md, Nat.reducePow, Nat.reduceAdd, Nat.reduceMul]
          refine WL_det rfl (det_assign) ?_
          dsimp only [put, List.set, ev, nth, List.nil_append, List.cons_append, md, Nat.reducePow, Nat.reduceAdd, Nat.reduceMul]
          refine WL_nil ?_
          refine WC_seq ?_
          refine WC_region ?_
          refine WL_det rfl (det_move) ?_
          dsimp only [put, List.set, ev, nth, List.nil_append, List.cons_append, md, Nat.reducePow, Nat.reduceAdd, Nat.reduceMul]
          refine WL_det rfl (det_move) ?_
          dsimp only [put, List.set, ev, nth, List.nil_append, List.cons_append, md, Nat.reducePow, Nat.reduceAdd, Nat.reduceMul]
          refine WL_det rfl (det_leq rfl rfl) ?_
          dsimp only [put, List.set, ev, nth, List.nil_append, List.cons_append, md, Nat.reducePow, Nat.reduceAdd, Nat.reduceMul]
          refine WL_nil ?_
          refine WC_cond rfl (fun hc2 => ?_) (fun hc2 => ?_)
          · have hc2 := of_decide_eq_true hc2
            have hm1 : f j * g (i - j) ≤ 600 * 255 := Nat.mul_le_mul (hf j (by omega)) (hg _)
            refine WC_draw [[], [0], [0, 1], [], [], [], [4, 5], [4, 5, 6], [4, 5, 6, 7], [3, 4, 5, 6, 7, 8], [0, 1, 2, 3, 4, 5, 6, 7, 8, 9], [0, 1, 2, 3, 4, 5, 6, 7, 8, 9, 10], [0, 1, 2, 3, 4, 5, 6, 7, 8, 9, 10, 11]] [12] 50 [] (List.nil_sublist _) mixed rfl (by decide) ?_
            refine RW.pure rfl rfl (fun _ => rfl) (fun V hV => det_move) (fun _ _ _ => rfl) ?_
            dsimp only [put, List.set, ev, nth, List.nil_append, List.cons_append, md, Nat.reducePow, Nat.reduceAdd, Nat.reduceMul]
            refine RW.pure rfl rfl (fun _ => rfl) (fun V hV => det_idxA Try.underlying112 Try.sizeOf24 rfl rfl (rfl) (by omega)) (fun _ _ _ => rfl) ?_
            dsimp only [put, List.set, ev, nth, List.nil_append, List.cons_append, md, Nat.reducePow, Nat.reduceAdd, Nat.reduceMul]
            refine RW.det [] rfl rfl rfl rfl (fun _ => rfl) (fun V hV => Det.rel (det_loadA 3 Try.isAgg24 rfl rfl (by omega))) (fun _ _ _ => rfl) ?_
            dsimp only [put, List.set, ev, nth, List.nil_append, List.cons_append, md, Nat.reducePow, Nat.reduceAdd, Nat.reduceMul]
            refine RW.pure rfl rfl (fun _ => rfl) (fun V hV => det_move) (fun _ _ _ => rfl) ?_
            dsimp only [put, List.set, ev, nth, List.nil_append, List.cons_append, md, Nat.reducePow, Nat.reduceAdd, Nat.reduceMul]
            refine RW.pure rfl rfl (fun _ => rfl) (fun V hV => det_move) (fun _ _ _ => rfl) ?_
            dsimp only [put, List.set, ev, nth, List.nil_append, List.cons_append, md, Nat.reducePow, Nat.reduceAdd, Nat.reduceMul]
            refine RW.pure rfl rfl (fun _ => rfl) (fun V hV => det_move) (fun _ _ _ => rfl) ?_
            dsimp only [put, List.set, ev, nth, List.nil_append, List.cons_append, md, Nat.reducePow, Nat.reduceAdd, Nat.reduceMul]
            refine RW.pure rfl rfl (fun _ => rfl) (fun V hV => det_subi rfl rfl (by omega) (by omega)) (fun _ _ _ => rfl) ?_
            dsimp only [put, List.set, ev, nth, List.nil_append, List.cons_append, md, Nat.reducePow, Nat.reduceAdd, Nat.reduceMul]
            refine RW.pure rfl rfl (fun _ => rfl) (fun V hV => det_idxA Try.underlying112 Try.sizeOf24 rfl rfl (rfl) (by omega)) (fun _ _ _ => rfl) ?_
            dsimp only [put, List.set, ev, nth, List.nil_append, List.cons_append, md, Nat.reducePow, Nat.reduceAdd, Nat.reduceMul]
            refine RW.det [] rfl rfl rfl rfl (fun _ => rfl) (fun V hV => Det.rel (det_loadA 1 Try.isAgg24 rfl rfl (by omega))) (fun _ _ _ => rfl) ?_
            dsimp only [put, List.set, ev, nth, List.nil_append, List.cons_append, md, Nat.reducePow, Nat.reduceAdd, Nat.reduceMul]
            refine RW.pure rfl rfl (fun _ => rfl) (fun V hV => det_mul' rfl rfl rfl (by simp only [md]; omega)) (fun _ _ _ => rfl) ?_
            dsimp only [put, List.set, ev, nth, List.nil_append, List.cons_append, md, Nat.reducePow, Nat.reduceAdd, Nat.reduceMul]
            refine RW.pure rfl rfl (fun _ => rfl) (fun V hV => det_add' rfl rfl rfl (by simp only [md]; omega)) (fun _ _ _ => rfl) ?_
            dsimp only [put, List.set, ev, nth, List.nil_append, List.cons_append, md, Nat.reducePow, Nat.reduceAdd, Nat.reduceMul]
            refine RW.pure rfl rfl (fun _ => rfl) (fun V hV => det_idxA Try.underlying112 Try.sizeOf24 rfl rfl (rfl) (by omega)) (fun _ _ _ => rfl) ?_
            dsimp only [put, List.set, ev, nth, List.nil_append, List.cons_append, md, Nat.reducePow, Nat.reduceAdd, Nat.reduceMul]
            refine RW.tail' (B := fun V => _ ++ flat [] V) rfl rfl rfl rfl (fun _ => rfl) (fun V hV => chg_storeA 3 Try.sizeOf24 rfl rfl (by omega) rfl) (fun _ _ _ _ _ h => h) (fun _ _ _ _ _ => List.nil_sublist _) ?_
            dsimp only [put, List.set, ev, nth, List.nil_append, List.cons_append, md, Nat.reducePow, Nat.reduceAdd, Nat.reduceMul]
            refine RW.done (fun V => (V 12).2) rfl rfl (fun _ => rfl) (fun V hV => ?_)
            have ht12 : (V 12).2 = _ := hV 12 _ rfl
            simp only [ht12, flat_nil]
            try dsimp only [put, blk, flat_nil, List.append_nil, List.append, List.eraseIdx, List.set, ev, nth, List.nil_append, List.cons_append, md, Nat.reducePow, Nat.reduceAdd, Nat.reduceMul]
            clear hV ht12
            refine WC_region ?_
            refine WL_det rfl (det_addi (q := 1) rfl rfl (by omega)) ?_
            dsimp only [put, List.set, ev, nth, List.nil_append, List.cons_append, md, Nat.reducePow, Nat.reduceAdd, Nat.reduceMul]
            refine WL_det rfl (det_move) ?_
            dsimp only [put, List.set, ev, nth, List.nil_append, List.cons_append, md, Nat.reducePow, Nat.reduceAdd, Nat.reduceMul]
            refine WL_nil ?_
            refine ⟨j + 1, ?_, ?_, ?_, ?_⟩
            · rfl
            · first | rw [pf_at, pf_le f g i j hc2, pf_succ] | rw [pf_at, pf_gt f g i j hc2, pf_succ]
              try rfl
            · omega
            · omega
          · have hc2 := of_decide_eq_false hc2
            have hm0 := hf j (by omega)
            have hm2 : 320 * f j * g (i + 17 - j) ≤ 192000 * 255 := Nat.mul_le_mul (by omega) (hg _)
            refine WC_draw [[], [0], [0, 1], [], [3], [], [5], [], [5, 6, 7], [5, 6, 7, 8], [5, 6, 7, 8, 9], [3, 4, 5, 6, 7, 8, 9, 10], [0, 1, 2, 3, 4, 5, 6, 7, 8, 9, 10, 11], [0, 1, 2, 3, 4, 5, 6, 7, 8, 9, 10, 11, 12], [0, 1, 2, 3, 4, 5, 6, 7, 8, 9, 10, 11, 12, 13]] [14] 50 [] (List.nil_sublist _) mixed rfl (by decide) ?_
            refine RW.pure rfl rfl (fun _ => rfl) (fun V hV => det_move) (fun _ _ _ => rfl) ?_
            dsimp only [put, List.set, ev, nth, List.nil_append, List.cons_append, md, Nat.reducePow, Nat.reduceAdd, Nat.reduceMul]
            refine RW.pure rfl rfl (fun _ => rfl) (fun V hV => det_idxA Try.underlying112 Try.sizeOf24 rfl rfl (rfl) (by omega)) (fun _ _ _ => rfl) ?_
            dsimp only [put, List.set, ev, nth, List.nil_append, List.cons_append, md, Nat.reducePow, Nat.reduceAdd, Nat.reduceMul]
            refine RW.det [] rfl rfl rfl rfl (fun _ => rfl) (fun V hV => Det.rel (det_loadA 3 Try.isAgg24 rfl rfl (by omega))) (fun _ _ _ => rfl) ?_
            dsimp only [put, List.set, ev, nth, List.nil_append, List.cons_append, md, Nat.reducePow, Nat.reduceAdd, Nat.reduceMul]
            refine RW.pure rfl rfl (fun _ => rfl) (fun V hV => det_move) (fun _ _ _ => rfl) ?_
            dsimp only [put, List.set, ev, nth, List.nil_append, List.cons_append, md, Nat.reducePow, Nat.reduceAdd, Nat.reduceMul]
            refine RW.pure rfl rfl (fun _ => rfl) (fun V hV => det_mul' (p := 320) rfl rfl rfl (by simp only [md]; omega)) (fun _ _ _ => rfl) ?_
            dsimp only [put, List.set, ev, nth, List.nil_append, List.cons_append, md, Nat.reducePow, Nat.reduceAdd, Nat.reduceMul]
            refine RW.pure rfl rfl (fun _ => rfl) (fun V hV => det_move) (fun _ _ _ => rfl) ?_
            dsimp only [put, List.set, ev, nth, List.nil_append, List.cons_append, md, Nat.reducePow, Nat.reduceAdd, Nat.reduceMul]
            refine RW.pure rfl rfl (fun _ => rfl) (fun V hV => det_addi (q := 17) rfl rfl (by omega)) (fun _ _ _ => rfl) ?_
            dsimp only [put, List.set, ev, nth, List.nil_append, List.cons_append, md, Nat.reducePow, Nat.reduceAdd, Nat.reduceMul]
            refine RW.pure rfl rfl (fun _ => rfl) (fun V hV => det_move) (fun _ _ _ => rfl) ?_
            dsimp only [put, List.set, ev, nth, List.nil_append, List.cons_append, md, Nat.reducePow, Nat.reduceAdd, Nat.reduceMul]
            refine RW.pure rfl rfl (fun _ => rfl) (fun V hV => det_subi rfl rfl (by omega) (by omega)) (fun _ _ _ => rfl) ?_
            dsimp only [put, List.set, ev, nth, List.nil_append, List.cons_append, md, Nat.reducePow, Nat.reduceAdd, Nat.reduceMul]
            refine RW.pure rfl rfl (fun _ => rfl) (fun V hV => det_idxA Try.underlying112 Try.sizeOf24 rfl rfl (rfl) (by omega)) (fun _ _ _ => rfl) ?_
            dsimp only [put, List.set, ev, nth, List.nil_append, List.cons_append, md, Nat.reducePow, Nat.reduceAdd, Nat.reduceMul]
            refine RW.det [] rfl rfl rfl rfl (fun _ => rfl) (fun V hV => Det.rel (det_loadA 1 Try.isAgg24 rfl rfl (by omega))) (fun _ _ _ => rfl) ?_
            dsimp only [put, List.set, ev, nth, List.nil_append, List.cons_append, md, Nat.reducePow, Nat.reduceAdd, Nat.reduceMul]
            refine RW.pure rfl rfl (fun _ => rfl) (fun V hV => det_mul' rfl rfl rfl (by simp only [md]; omega)) (fun _ _ _ => rfl) ?_
            dsimp only [put, List.set, ev, nth, List.nil_append, List.cons_append, md, Nat.reducePow, Nat.reduceAdd, Nat.reduceMul]
            refine RW.pure rfl rfl (fun _ => rfl) (fun V hV => det_add' rfl rfl rfl (by simp only [md]; omega)) (fun _ _ _ => rfl) ?_
            dsimp only [put, List.set, ev, nth, List.nil_append, List.cons_append, md, Nat.reducePow, Nat.reduceAdd, Nat.reduceMul]
            refine RW.pure rfl rfl (fun _ => rfl) (fun V hV => det_idxA Try.underlying112 Try.sizeOf24 rfl rfl (rfl) (by omega)) (fun _ _ _ => rfl) ?_
            dsimp only [put, List.set, ev, nth, List.nil_append, List.cons_append, md, Nat.reducePow, Nat.reduceAdd, Nat.reduceMul]
            refine RW.tail' (B := fun V => _ ++ flat [] V) rfl rfl rfl rfl (fun _ => rfl) (fun V hV => chg_storeA 3 Try.sizeOf24 rfl rfl (by omega) rfl) (fun _ _ _ _ _ h => h) (fun _ _ _ _ _ => List.nil_sublist _) ?_
            dsimp only [put, List.set, ev, nth, List.nil_append, List.cons_append, md, Nat.reducePow, Nat.reduceAdd, Nat.reduceMul]
            refine RW.done (fun V => (V 14).2) rfl rfl (fun _ => rfl) (fun V hV => ?_)
            have ht14 : (V 14).2 = _ := hV 14 _ rfl
            simp only [ht14, flat_nil]
            try dsimp only [put, blk, flat_nil, List.append_nil, List.append, List.eraseIdx, List.set, ev, nth, List.nil_append, List.cons_append, md, Nat.reducePow, Nat.reduceAdd, Nat.reduceMul]
            clear hV ht14
            refine WC_region ?_
            refine WL_det rfl (det_addi (q := 1) rfl rfl (by omega)) ?_
            dsimp only [put, List.set, ev, nth, List.nil_append, List.cons_append, md, Nat.reducePow, Nat.reduceAdd, Nat.reduceMul]
            refine WL_det rfl (det_move) ?_
            dsimp only [put, List.set, ev, nth, List.nil_append, List.cons_append, md, Nat.reducePow, Nat.reduceAdd, Nat.reduceMul]
            refine WL_nil ?_
            refine ⟨j + 1, ?_, ?_, ?_, ?_⟩
            · rfl
            · first | rw [pf_at, pf_le f g i j hc2, pf_succ] | rw [pf_at, pf_gt f g i j hc2, pf_succ]
              try rfl
            · omega
            · omega
        · have hc1 := of_decide_eq_false hc1
          obtain rfl : j = 17 := by omega
          refine WC_exit ?_
          refine inB_same ?_
          refine WC_region ?_
          refine WL_det rfl (det_addi (q := 1) rfl rfl (by omega)) ?_
          dsimp only [put, List.set, ev, nth, List.nil_append, List.cons_append, md, Nat.reducePow, Nat.reduceAdd, Nat.reduceMul]
          refine WL_det rfl (det_move) ?_
          dsimp only [put, List.set, ev, nth, List.nil_append, List.cons_append, md, Nat.reducePow, Nat.reduceAdd, Nat.reduceMul]
          refine WL_nil ?_
          refine ⟨i + 1, ?_, ?_, ?_, ?_⟩
          · rfl
          · rw [← pf_next]
            try rfl
          · omega
          · omega
    · have hc0 := of_decide_eq_false hc0
      obtain rfl : i = 17 := by omega
      rw [arr_congr (f := pf f g 17 0) (g := fun p => prd f g p 17) (pf_all f g)]
      refine WC_exit ?_
      refine inB_same ?_
      refine WC_seq ?_
      refine WC_region ?_
      refine WL_det rfl (det_loadWA 3 Try.underlying112 rfl i112 rfl rfl) ?_
      dsimp only [put, List.set, ev, nth, List.nil_append, List.cons_append, md, Nat.reducePow, Nat.reduceAdd, Nat.reduceMul]
      refine WL_rel rfl (Rel_call rfl Try.call90 (fun w hw => carry_spec (fun p => prd f g p 17) (fun p hp => by have := prd_le f g p 17 hf hg (by decide); omega) w)) ?_
      rintro _ _ ⟨rfl, rfl⟩
      dsimp only [put, List.append_nil, List.set, ev, nth, List.nil_append, List.cons_append, md, Nat.reducePow, Nat.reduceAdd, Nat.reduceMul]
      refine WL_chg rfl (chg_storeWA 2 Try.sizeOf112 rfl rfl rfl) ?_
      rintro _ _ rfl
      dsimp only [put, List.set, ev, nth, List.nil_append, List.cons_append, md, Nat.reducePow, Nat.reduceAdd, Nat.reduceMul]
      refine WL_nil ?_
      refine WC_ret ?_
      refine fin_cell 2 Try.results76 rfl rfl Try.underlying112 rfl i112 (arr_size _ _ _) ([]) (List.nil_sublist _) ?_
      exact ⟨rfl, rfl⟩

theorem redbyt (N : Nat) (hN : N < 256 ^ 17) (w : World) : Calls Try.prog 77 [.agg (arr .u32 17 (byt N))].toArray w (PostV w (.agg (arr .u32 17 (byt (N % Pp))))) := by
  have h := reduced_spec (byt N) (fun i _ => by have := byt_lt N i; omega) w
  rwa [lev_byt, Nat.mod_eq_of_lt hN] at h
end Go.Proofs.Ytpmldkhgdpchjaa

set_option linter.unusedVariables false
namespace Go.Proofs.Ytpmldkhgdpchjaa
open Go.MW
theorem i5 : (Try.prog.info? 5).map (·.size) = some 1 := by kernel_rfl
theorem i24 : (Try.prog.info? 24).map (·.size) = some 1 := by kernel_rfl
theorem cpy_lev (f : Nat → Nat) (n : Nat) (hf : ∀ i, i < n → f i < 256) (hn : n ≤ 17) : ∀ i, i < 17 → cpy (fun _ => 0) f 0 (min n 17) i = byt (lev f n) i := by
  intro i hi
  unfold cpy
  by_cases h : i < n
  · rw [if_pos (by omega), byt_lev f n hf i h, Nat.sub_zero]
  · rw [if_neg (by omega), byt_small _ _ (Nat.lt_of_lt_of_le (lev_lt f n hf) (Nat.pow_le_pow_right (by decide) (by omega)))]
def clf (f : Nat → Nat) (i : Nat) : Nat := if i % 4 = 3 then f i &&& 15 else if i % 4 = 0 ∧ 0 < i then f i &&& 252 else f i
def clk (f : Nat → Nat) (k : Nat) : Nat → Nat := fun i => if i < k then clf f i else f i
theorem clk_zero (f : Nat → Nat) : clk f 0 = f := by funext i; simp [clk]
theorem clk_at (f : Nat → Nat) (k : Nat) : clk f k k = f k := by simp [clk]
theorem clk_succ (f : Nat → Nat) (k : Nat) : upd (clk f k) k (clf f k) = clk f (k + 1) := by
  funext j
  unfold clk upd
  by_cases h : j = k
  · subst h; simp
  · by_cases h2 : j < k
    · simp [h, h2, show j < k + 1 by omega]
    · simp [h, h2, show ¬ j < k + 1 by omega]
theorem clk_same (f : Nat → Nat) (k : Nat) (h : clf f k = f k) : clk f k = clk f (k + 1) := by
  rw [← clk_succ, h]
  funext j
  unfold upd
  split
  · rename_i e; subst e; exact clk_at f j
  · rfl
theorem clf_lt (f : Nat → Nat) (i : Nat) (h : f i < 256) : clf f i < 256 := by
  unfold clf
  split
  · exact Nat.lt_of_le_of_lt Nat.and_le_left h
  · split
    · exact Nat.lt_of_le_of_lt Nat.and_le_left h
    · exact h

set_option maxRecDepth 100000 in
set_option maxHeartbeats 400000 in
theorem pof_small (n : Nat) (f : Nat → Nat) (hf : ∀ i, i < n → f i < 256) (hn : n ≤ 17) (va : Value) (w : World) (ha : Rd w .u8 n f va) :
    Calls Try.prog 57 [va].toArray w (PostV w (.tuple #[.agg (arr .u8 17 (byt (lev f n % Pp))), vn .i64 0])) := by
  have ha0 := ha
  obtain ⟨p1, c1, b1, o1, rfl, hp1, hx1⟩ := ha
  refine calls_of_WC Try.func57 rfl ?_
  simp only [Try.ntmps57, List.length_cons, List.length_nil, Nat.reduceAdd, Nat.reduceSub, List.replicate, List.cons_append, List.nil_append]
  refine WC_seq ?_
  refine WC_region ?_
  refine WL_rel rfl (rel_alloc z76 rfl) ?_
  rintro _ _ ⟨b0, rfl, rfl⟩
  dsimp only [put, List.set, ev, nth, List.nil_append, List.cons_append, md, Nat.reducePow, Nat.reduceAdd, Nat.reduceMul]
  refine WL_det rfl (det_assign) ?_
  dsimp only [put, List.set, ev, nth, List.nil_append, List.cons_append, md, Nat.reducePow, Nat.reduceAdd, Nat.reduceMul]
  refine WL_nil ?_
  refine WC_seq ?_
  refine WC_seq ?_
  refine WC_region ?_
  refine WL_det rfl (det_move) ?_
  dsimp only [put, List.set, ev, nth, List.nil_append, List.cons_append, md, Nat.reducePow, Nat.reduceAdd, Nat.reduceMul]
  refine WL_det rfl (det_len Try.underlying35 rfl) ?_
  dsimp only [put, List.set, ev, nth, List.nil_append, List.cons_append, md, Nat.reducePow, Nat.reduceAdd, Nat.reduceMul]
  refine WL_det rfl (det_gtr (q := 17) rfl rfl) ?_
  dsimp only [put, List.set, ev, nth, List.nil_append, List.cons_append, md, Nat.reducePow, Nat.reduceAdd, Nat.reduceMul]
  refine WL_nil ?_
  refine WC_cond rfl (fun hc0 => ?_) (fun hc0 => ?_)
  · have hc0 := of_decide_eq_true hc0
    exact absurd hc0 (by omega)
  · have hc0 := of_decide_eq_false hc0
    refine WC_skip ?_
    refine WC_seq ?_
    refine WC_region ?_
    refine WL_rel rfl (rel_alloc z76 rfl) ?_
    rintro _ _ ⟨b1, rfl, rfl⟩
    dsimp only [put, List.set, ev, nth, List.nil_append, List.cons_append, md, Nat.reducePow, Nat.reduceAdd, Nat.reduceMul]
    refine WL_nil ?_
    refine WC_seq ?_
    refine WC_region ?_
    refine WL_det rfl (det_sliceA Try.underlying76 Try.sizeOf5 rfl) ?_
    dsimp only [put, List.set, ev, nth, List.nil_append, List.cons_append, md, Nat.reducePow, Nat.reduceAdd, Nat.reduceMul]
    refine WL_det rfl (det_move) ?_
    dsimp only [put, List.set, ev, nth, List.nil_append, List.cons_append, md, Nat.reducePow, Nat.reduceAdd, Nat.reduceMul]
    refine WL_chg rfl (chg_copy 1 Try.underlying35 i5 rfl rfl (by omega) rfl (fun w hw => ha0.far hw)) ?_
    rintro _ _ ⟨rfl, rfl⟩
    dsimp only [put, List.set, ev, nth, List.nil_append, List.cons_append, md, Nat.reducePow, Nat.reduceAdd, Nat.reduceMul]
    rw [arr_congr (f := cpy (fun _ => 0) f 0 (min n 17)) (g := byt (lev f n)) (cpy_lev f n hf hn)]
    refine WL_nil ?_
    refine WC_seq ?_
    refine WC_region ?_
    refine WL_det rfl (det_loadWA 1 Try.underlying76 rfl i76 rfl rfl) ?_
    dsimp only [put, List.set, ev, nth, List.nil_append, List.cons_append, md, Nat.reducePow, Nat.reduceAdd, Nat.reduceMul]
    refine WL_rel rfl (Rel_call rfl Try.call75 (fun w hw => wide_spec _ w)) ?_
    rintro _ _ ⟨rfl, rfl⟩
    dsimp only [put, List.append_nil, List.set, ev, nth, List.nil_append, List.cons_append, md, Nat.reducePow, Nat.reduceAdd, Nat.reduceMul]
    refine WL_rel rfl (Rel_call rfl Try.call77 (fun w hw => redbyt _ (Nat.lt_of_lt_of_le (lev_lt f n hf) (Nat.pow_le_pow_right (by decide) hn)) w)) ?_
    rintro _ _ ⟨rfl, rfl⟩
    dsimp only [put, List.append_nil, List.set, ev, nth, List.nil_append, List.cons_append, md, Nat.reducePow, Nat.reduceAdd, Nat.reduceMul]
    refine WL_rel rfl (Rel_call rfl Try.call82 (fun w hw => plain_spec _ w)) ?_
    rintro _ _ ⟨rfl, rfl⟩
    dsimp only [put, List.append_nil, List.set, ev, nth, List.nil_append, List.cons_append, md, Nat.reducePow, Nat.reduceAdd, Nat.reduceMul]
    refine WL_chg rfl (chg_storeWA 0 Try.sizeOf76 rfl rfl rfl) ?_
    rintro _ _ rfl
    dsimp only [put, List.set, ev, nth, List.nil_append, List.cons_append, md, Nat.reducePow, Nat.reduceAdd, Nat.reduceMul]
    refine WL_det rfl (det_assign) ?_
    dsimp only [put, List.set, ev, nth, List.nil_append, List.cons_append, md, Nat.reducePow, Nat.reduceAdd, Nat.reduceMul]
    refine WL_nil ?_
    refine WC_ret ?_
    refine fin_cell_tmp 0 Try.results57 rfl rfl Try.underlying76 rfl i76 (arr_size _ _ _) rfl ([]) (List.nil_sublist _) ?_
    exact ⟨rfl, rfl⟩

set_option maxRecDepth 100000 in
set_option maxHeartbeats 400000 in
theorem clamp_spec (f : Nat → Nat) (hf : ∀ i, i < 16 → f i < 256) (w : World) :
    Calls Try.prog 55 [.agg (arr .u8 16 f)].toArray w (PostV w (.agg (arr .u8 16 (clf f)))) := by
  refine calls_of_WC Try.func55 rfl ?_
  simp only [Try.ntmps55, List.length_cons, List.length_nil, Nat.reduceAdd, Nat.reduceSub, List.replicate, List.cons_append, List.nil_append]
  refine WC_seq ?_
  refine WC_region ?_
  refine WL_rel rfl (rel_box rfl rfl) ?_
  rintro _ _ ⟨b0, rfl, rfl⟩
  dsimp only [put, List.set, ev, nth, List.nil_append, List.cons_append, md, Nat.reducePow, Nat.reduceAdd, Nat.reduceMul]
  refine WL_rel rfl (rel_alloc z71 rfl) ?_
  rintro _ _ ⟨b1, rfl, rfl⟩
  dsimp only [put, List.set, ev, nth, List.nil_append, List.cons_append, md, Nat.reducePow, Nat.reduceAdd, Nat.reduceMul]
  refine WL_nil ?_
  refine WC_seq ?_
  refine WC_seq ?_
  refine WC_region ?_
  refine WL_det rfl (det_move) ?_
  dsimp only [put, List.set, ev, nth, List.nil_append, List.cons_append, md, Nat.reducePow, Nat.reduceAdd, Nat.reduceMul]
  refine WL_nil ?_
  refine WC_block ?_
  refine WC_loopS (ι := Nat) [5, 6, 3, 8, 9, 10, 7, 11, 12, 13, 14, 15, 17, 18, 19, 20, 21, 22, 23, 16, 24, 25, 26, 27, 28, 29] (fun k => [(4, vn .i64 (k))]) (fun k => [(0, (some b0, .cells (arr .u8 16 (clk f k)) 71 (0, 0)))]) (fun k => k ≤ 16) (fun k => 16 - k) 0 ?_ ?_ ?_ ?_
  · rfl
  · rw [clk_zero]
    try rfl
  · exact (by omega)
  · intro k g hI
    dsimp only [setAll, setG, setM, List.set]
    have hb := fun h => hf k h
    have hck := clk_at f k
    refine WC_seq ?_
    refine WC_region ?_
    refine WL_det rfl (det_lss (q := 16) rfl rfl) ?_
    dsimp only [put, List.set, ev, nth, List.nil_append, List.cons_append, md, Nat.reducePow, Nat.reduceAdd, Nat.reduceMul]
    refine WL_nil ?_
    refine WC_seq ?_
    refine WC_cond rfl (fun hc0 => ?_) (fun hc0 => ?_)
    · have hc0 := of_decide_eq_true hc0
      have hb := hf k (by omega)
      refine WC_skip ?_
      refine WC_seq ?_
      refine WC_block ?_
      refine WC_seq ?_
      refine WC_region ?_
      refine WL_det rfl (det_move) ?_
      dsimp only [put, List.set, ev, nth, List.nil_append, List.cons_append, md, Nat.reducePow, Nat.reduceAdd, Nat.reduceMul]
      refine WL_det rfl (det_assign) ?_
      dsimp only [put, List.set, ev, nth, List.nil_append, List.cons_append, md, Nat.reducePow, Nat.reduceAdd, Nat.reduceMul]
      refine WL_nil ?_
      refine WC_block ?_
      refine WC_seq ?_
      refine WC_region ?_
      refine WL_det rfl (det_move) ?_
      dsimp only [put, List.set, ev, nth, List.nil_append, List.cons_append, md, Nat.reducePow, Nat.reduceAdd, Nat.reduceMul]
      refine WL_det rfl (det_remi (q := 4) rfl rfl (by omega)) ?_
      dsimp only [put, List.set, ev, nth, List.nil_append, List.cons_append, md, Nat.reducePow, Nat.reduceAdd, Nat.reduceMul]
      refine WL_det rfl (det_eql (q := 3) rfl rfl) ?_
      dsimp only [put, List.set, ev, nth, List.nil_append, List.cons_append, md, Nat.reducePow, Nat.reduceAdd, Nat.reduceMul]
      refine WL_det rfl (det_assign) ?_
      dsimp only [put, List.set, ev, nth, List.nil_append, List.cons_append, md, Nat.reducePow, Nat.reduceAdd, Nat.reduceMul]
      refine WL_nil ?_
      refine WC_cond rfl (fun hc1 => ?_) (fun hc1 => ?_)
      · have hc1 := of_decide_eq_true hc1
        refine WC_region ?_
        refine WL_det rfl (det_move) ?_
        dsimp only [put, List.set, ev, nth, List.nil_append, List.cons_append, md, Nat.reducePow, Nat.reduceAdd, Nat.reduceMul]
        refine WL_det rfl (det_idxA Try.underlying71 Try.sizeOf5 rfl rfl (rfl) (by omega)) ?_
        dsimp only [put, List.set, ev, nth, List.nil_append, List.cons_append, md, Nat.reducePow, Nat.reduceAdd, Nat.reduceMul]
        refine WL_det rfl (det_loadA 0 Try.isAgg5 rfl rfl (by omega)) ?_
        dsimp only [put, List.set, ev, nth, List.nil_append, List.cons_append, md, Nat.reducePow, Nat.reduceAdd, Nat.reduceMul]
        rw [clk_at]
        refine WL_det rfl (det_and (q := 15) rfl rfl rfl (by simp only [md]; omega) (by decide)) ?_
        dsimp only [put, List.set, ev, nth, List.nil_append, List.cons_append, md, Nat.reducePow, Nat.reduceAdd, Nat.reduceMul]
        refine WL_det rfl (det_idxA Try.underlying71 Try.sizeOf5 rfl rfl (rfl) (by omega)) ?_
        dsimp only [put, List.set, ev, nth, List.nil_append, List.cons_append, md, Nat.reducePow, Nat.reduceAdd, Nat.reduceMul]
        refine WL_chg rfl (chg_storeA 0 Try.sizeOf5 rfl rfl (by omega) rfl) ?_
        rintro _ _ rfl
        dsimp only [put, List.set, ev, nth, List.nil_append, List.cons_append, md, Nat.reducePow, Nat.reduceAdd, Nat.reduceMul]
        refine WL_nil ?_
        refine WC_region ?_
        refine WL_det rfl (det_addi (q := 1) rfl rfl (by omega)) ?_
        dsimp only [put, List.set, ev, nth, List.nil_append, List.cons_append, md, Nat.reducePow, Nat.reduceAdd, Nat.reduceMul]
        refine WL_det rfl (det_move) ?_
        dsimp only [put, List.set, ev, nth, List.nil_append, List.cons_append, md, Nat.reducePow, Nat.reduceAdd, Nat.reduceMul]
        refine WL_nil ?_
        refine ⟨k + 1, ?_, ?_, ?_, ?_⟩
        · rfl
        · first | rw [show f k &&& 15 = clf f k by simp [clf, hc1], clk_succ] | rw [show f k &&& 252 = clf f k by unfold clf; rw [if_neg hc1, if_pos ⟨hk4, hc2⟩], clk_succ] | rw [clk_same f k (by unfold clf; rw [if_neg hc1, if_neg (by omega)])]
          try rfl
        · omega
        · omega
      · have hc1 := of_decide_eq_false hc1
        refine WC_seq ?_
        by_cases hk4 : k % 4 = 0
        · refine WC_region ?_
          refine WL_det rfl (det_move) ?_
          dsimp only [put, List.set, ev, nth, List.nil_append, List.cons_append, md, Nat.reducePow, Nat.reduceAdd, Nat.reduceMul]
          refine WL_det rfl (det_remi (q := 4) rfl rfl (by omega)) ?_
          dsimp only [put, List.set, ev, nth, List.nil_append, List.cons_append, md, Nat.reducePow, Nat.reduceAdd, Nat.reduceMul]
          refine WL_det rfl (Det.bv true (det_eql (q := 0) rfl rfl) (decide_eq_true hk4)) ?_
          dsimp only [put, List.set, ev, nth, List.nil_append, List.cons_append, md, Nat.reducePow, Nat.reduceAdd, Nat.reduceMul]
          refine WL_det rfl (det_move) ?_
          dsimp only [put, List.set, ev, nth, List.nil_append, List.cons_append, md, Nat.reducePow, Nat.reduceAdd, Nat.reduceMul]
          refine WL_detG rfl (det_move) ?_
          dsimp only [put, List.set, ev, nth, List.nil_append, List.cons_append, md, Nat.reducePow, Nat.reduceAdd, Nat.reduceMul]
          refine WL_detG rfl (det_gtr (q := 0) rfl rfl) ?_
          dsimp only [put, List.set, ev, nth, List.nil_append, List.cons_append, md, Nat.reducePow, Nat.reduceAdd, Nat.reduceMul]
          refine WL_det rfl (det_pick_true rfl) ?_
          dsimp only [put, List.set, ev, nth, List.nil_append, List.cons_append, md, Nat.reducePow, Nat.reduceAdd, Nat.reduceMul]
          refine WL_det rfl (det_assign) ?_
          dsimp only [put, List.set, ev, nth, List.nil_append, List.cons_append, md, Nat.reducePow, Nat.reduceAdd, Nat.reduceMul]
          refine WL_nil ?_
          refine WC_cond rfl (fun hc2 => ?_) (fun hc2 => ?_)
          · have hc2 := of_decide_eq_true hc2
            refine WC_region ?_
            refine WL_det rfl (det_move) ?_
            dsimp only [put, List.set, ev, nth, List.nil_append, List.cons_append, md, Nat.reducePow, Nat.reduceAdd, Nat.reduceMul]
            refine WL_det rfl (det_idxA Try.underlying71 Try.sizeOf5 rfl rfl (rfl) (by omega)) ?_
            dsimp only [put, List.set, ev, nth, List.nil_append, List.cons_append, md, Nat.reducePow, Nat.reduceAdd, Nat.reduceMul]
            refine WL_det rfl (det_loadA 0 Try.isAgg5 rfl rfl (by omega)) ?_
            dsimp only [put, List.set, ev, nth, List.nil_append, List.cons_append, md, Nat.reducePow, Nat.reduceAdd, Nat.reduceMul]
            rw [clk_at]
            refine WL_det rfl (det_and (q := 252) rfl rfl rfl (by simp only [md]; omega) (by decide)) ?_
            dsimp only [put, List.set, ev, nth, List.nil_append, List.cons_append, md, Nat.reducePow, Nat.reduceAdd, Nat.reduceMul]
            refine WL_det rfl (det_idxA Try.underlying71 Try.sizeOf5 rfl rfl (rfl) (by omega)) ?_
            dsimp only [put, List.set, ev, nth, List.nil_append, List.cons_append, md, Nat.reducePow, Nat.reduceAdd, Nat.reduceMul]
            refine WL_chg rfl (chg_storeA 0 Try.sizeOf5 rfl rfl (by omega) rfl) ?_
            rintro _ _ rfl
            dsimp only [put, List.set, ev, nth, List.nil_append, List.cons_append, md, Nat.reducePow, Nat.reduceAdd, Nat.reduceMul]
            refine WL_nil ?_
            refine WC_region ?_
            refine WL_det rfl (det_addi (q := 1) rfl rfl (by omega)) ?_
            dsimp only [put, List.set, ev, nth, List.nil_append, List.cons_append, md, Nat.reducePow, Nat.reduceAdd, Nat.reduceMul]
            refine WL_det rfl (det_move) ?_
            dsimp only [put, List.set, ev, nth, List.nil_append, List.cons_append, md, Nat.reducePow, Nat.reduceAdd, Nat.reduceMul]
            refine WL_nil ?_
            refine ⟨k + 1, ?_, ?_, ?_, ?_⟩
            · rfl
            · first | rw [show f k &&& 15 = clf f k by simp [clf, hc1], clk_succ] | rw [show f k &&& 252 = clf f k by unfold clf; rw [if_neg hc1, if_pos ⟨hk4, hc2⟩], clk_succ] | rw [clk_same f k (by unfold clf; rw [if_neg hc1, if_neg (by omega)])]
              try rfl
            · omega
            · omega
          · have hc2 := of_decide_eq_false hc2
            refine WC_skip ?_
            refine WC_region ?_
            refine WL_det rfl (det_addi (q := 1) rfl rfl (by omega)) ?_
            dsimp only [put, List.set, ev, nth, List.nil_append, List.cons_append, md, Nat.reducePow, Nat.reduceAdd, Nat.reduceMul]
            refine WL_det rfl (det_move) ?_
            dsimp only [put, List.set, ev, nth, List.nil_append, List.cons_append, md, Nat.reducePow, Nat.reduceAdd, Nat.reduceMul]
            refine WL_nil ?_
            refine ⟨k + 1, ?_, ?_, ?_, ?_⟩
            · rfl
            · first | rw [show f k &&& 15 = clf f k by simp [clf, hc1], clk_succ] | rw [show f k &&& 252 = clf f k by unfold clf; rw [if_neg hc1, if_pos ⟨hk4, hc2⟩], clk_succ] | rw [clk_same f k (by unfold clf; rw [if_neg hc1, if_neg (by omega)])]
              try rfl
            · omega
            · omega
        · refine WC_region ?_
          refine WL_det rfl (det_move) ?_
          dsimp only [put, List.set, ev, nth, List.nil_append, List.cons_append, md, Nat.reducePow, Nat.reduceAdd, Nat.reduceMul]
          refine WL_det rfl (det_remi (q := 4) rfl rfl (by omega)) ?_
          dsimp only [put, List.set, ev, nth, List.nil_append, List.cons_append, md, Nat.reducePow, Nat.reduceAdd, Nat.reduceMul]
          refine WL_det rfl (Det.bv false (det_eql (q := 0) rfl rfl) (decide_eq_false hk4)) ?_
          dsimp only [put, List.set, ev, nth, List.nil_append, List.cons_append, md, Nat.reducePow, Nat.reduceAdd, Nat.reduceMul]
          refine WL_det rfl (det_move) ?_
          dsimp only [put, List.set, ev, nth, List.nil_append, List.cons_append, md, Nat.reducePow, Nat.reduceAdd, Nat.reduceMul]
          refine WL_skipG rfl ?_
          dsimp only [put, List.set, ev, nth, List.nil_append, List.cons_append, md, Nat.reducePow, Nat.reduceAdd, Nat.reduceMul]
          refine WL_skipG rfl ?_
          dsimp only [put, List.set, ev, nth, List.nil_append, List.cons_append, md, Nat.reducePow, Nat.reduceAdd, Nat.reduceMul]
          refine WL_det rfl (det_pick_false rfl) ?_
          dsimp only [put, List.set, ev, nth, List.nil_append, List.cons_append, md, Nat.reducePow, Nat.reduceAdd, Nat.reduceMul]
          refine WL_det rfl (det_assign) ?_
          dsimp only [put, List.set, ev, nth, List.nil_append, List.cons_append, md, Nat.reducePow, Nat.reduceAdd, Nat.reduceMul]
          refine WL_nil ?_
          refine WC_cond_false rfl ?_
          refine WC_skip ?_
          refine WC_region ?_
          refine WL_det rfl (det_addi (q := 1) rfl rfl (by omega)) ?_
          dsimp only [put, List.set, ev, nth, List.nil_append, List.cons_append, md, Nat.reducePow, Nat.reduceAdd, Nat.reduceMul]
          refine WL_det rfl (det_move) ?_
          dsimp only [put, List.set, ev, nth, List.nil_append, List.cons_append, md, Nat.reducePow, Nat.reduceAdd, Nat.reduceMul]
          refine WL_nil ?_
          refine ⟨k + 1, ?_, ?_, ?_, ?_⟩
          · rfl
          · first | rw [show f k &&& 15 = clf f k by simp [clf, hc1], clk_succ] | rw [show f k &&& 252 = clf f k by unfold clf; rw [if_neg hc1, if_pos ⟨hk4, hc2⟩], clk_succ] | rw [clk_same f k (by unfold clf; rw [if_neg hc1, if_neg (by omega)])]
            try rfl
          · omega
          · omega
    · have hc0 := of_decide_eq_false hc0
      refine WC_exit ?_
      refine inB_same ?_
      refine WC_seq ?_
      refine WC_region ?_
      refine WL_det rfl (det_loadWA 0 Try.underlying71 rfl i71 rfl rfl) ?_
      dsimp only [put, List.set, ev, nth, List.nil_append, List.cons_append, md, Nat.reducePow, Nat.reduceAdd, Nat.reduceMul]
      refine WL_chg rfl (chg_storeWA 1 Try.sizeOf71 rfl rfl rfl) ?_
      rintro _ _ rfl
      dsimp only [put, List.set, ev, nth, List.nil_append, List.cons_append, md, Nat.reducePow, Nat.reduceAdd, Nat.reduceMul]
      refine WL_nil ?_
      refine WC_ret ?_
      obtain rfl : k = 16 := by omega
      rw [arr_congr (f := clk f 16) (g := clf f) (fun i hi => if_pos hi)]
      refine fin_cell 1 Try.results55 rfl rfl Try.underlying71 rfl i71 (arr_size _ _ _) ([]) (List.nil_sublist _) ?_
      exact ⟨rfl, rfl⟩

end Go.Proofs.Ytpmldkhgdpchjaa

set_option linter.unusedVariables false
namespace Go.Proofs.Ytpmldkhgdpchjaa
open Go.MW
def pieceN (F : Nat → Nat) (N k : Nat) : Nat := lev (fun i => F (16 * k + i)) (min (N - 16 * k) 16) + 256 ^ min (N - 16 * k) 16
theorem piece_cells (G : Nat → Nat) (n : Nat) (hn : n ≤ 16) (hG : ∀ i, i < n → G i < 256) : ∀ i, i < 17 → upd (cpy (fun _ => 0) G 0 (min n 17)) n 1 i = byt (lev G n + 256 ^ n) i := by
  intro i hi
  obtain ⟨g, hg⟩ : ∃ g : Nat → Nat, g = fun i => if i < n then G i else 1 := ⟨_, rfl⟩
  have hl : lev g (n + 1) = lev G n + 256 ^ n := by
    have h1 : lev g n = lev G n := lev_ext n fun j hj => by rw [hg]; simp [hj]
    have h2 : g n = 1 := by rw [hg]; simp
    simp only [lev]; rw [h1, h2, Nat.one_mul]
  have hlt : ∀ j, j < n + 1 → g j < 256 := fun j hj => by
    rw [hg]; simp only; split
    · exact hG j (by assumption)
    · decide
  rw [← hl]
  unfold upd cpy
  by_cases h1 : i = n
  · subst h1
    rw [if_pos rfl, byt_lev g _ hlt i (by omega), hg]; simp
  · rw [if_neg h1]
    by_cases h2 : i < n
    · rw [if_pos (by omega), byt_lev g _ hlt i (by omega), hg]; simp [h2]
    · rw [if_neg (by omega), byt_small _ _ (Nat.lt_of_lt_of_le (lev_lt g _ hlt) (Nat.pow_le_pow_right (by decide) (by omega)))]
def tagR (K : Nat) : Nat := lev (clf (byt K)) 16 % Pp
def tagS (K : Nat) : Nat := lev (fun j => byt K (16 + j)) 16 % Pp
def tagX (F : Nat → Nat) (N R : Nat) : Nat → Nat
  | 0 => 0
  | k + 1 => fold (lev (fun p => prd (fun i => pt (tagX F N R k) i + byt (pieceN F N k) i) (byt R) p 17) 17)
def tagZ (F : Nat → Nat) (N K : Nat) : Nat := tagX F N (tagR K) ((N + 15) / 16) % Pp + tagS K
theorem pt_zero (i : Nat) : pt 0 i = 0 := by unfold pt; split <;> simp [byt]
theorem tag_le (X P i : Nat) (h : X < 2 ^ 130 + 2 ^ 40) : pt X i + byt P i ≤ 600 := by
  have h1 := pt_le (M := 255) (i := i) (show X / 256 ^ 16 ≤ 255 by have := top_le h; omega) (by decide)
  have h2 := byt_lt P i
  omega
theorem tagX_lt (F : Nat → Nat) (N R k : Nat) : tagX F N R k < 2 ^ 130 + 2 ^ 40 := by
  induction k with
  | zero => simp [tagX]
  | succ k ih =>
    exact fold_lt (fun p => prd (fun i => pt (tagX F N R k) i + byt (pieceN F N k) i) (byt R) p 17) fun p _ => by
      have := prd_le (fun i => pt (tagX F N R k) i + byt (pieceN F N k) i) (byt R) p 17 (fun i _ => tag_le _ _ i ih) (fun i => by have := byt_lt R i; omega) (by decide)
      omega
theorem redpt (X : Nat) (hX : X < 2 ^ 130 + 2 ^ 40) (w : World) : Calls Try.prog 77 [.agg (arr .u32 17 (pt X))].toArray w (PostV w (.agg (arr .u32 17 (byt (X % Pp))))) := by
  have h := reduced_spec (pt X) (fun i _ => pt_le (M := 1000000000) (by have := top_le hX; omega) (by decide)) w
  rwa [lev_pt] at h
theorem sumbyt (A N : Nat) (hA : A < Pp) (hN : N < Pp) (w : World) : Calls Try.prog 78 [.agg (arr .u32 17 (byt A)), .agg (arr .u32 17 (byt N))].toArray w (PostV w (.agg (arr .u32 17 (byt (A + N))))) := by
  have h := sum_spec (byt A) (byt N) (fun i _ => by have := byt_lt A i; omega) (fun i _ => by have := byt_lt N i; omega) w
  rwa [lev_byt, lev_byt, Nat.mod_eq_of_lt (P_lt hA), Nat.mod_eq_of_lt (P_lt hN)] at h
theorem tagS_lt (K : Nat) : tagS K < Pp := Nat.mod_lt _ Pp_pos

set_option maxRecDepth 100000 in
set_option maxHeartbeats 400000 in
theorem clamped_spec (K : Nat) (w : World) :
    Calls Try.prog 74 [.agg (arr .u8 32 (byt K))].toArray w (Post w (IsSl 16 (arr .u8 16 (clf (byt K))) 71)) := by
  refine calls_of_WC Try.func74 rfl ?_
  simp only [Try.ntmps74, List.length_cons, List.length_nil, Nat.reduceAdd, Nat.reduceSub, List.replicate, List.cons_append, List.nil_append]
  refine WC_seq ?_
  refine WC_region ?_
  refine WL_rel rfl (rel_box rfl rfl) ?_
  rintro _ _ ⟨b0, rfl, rfl⟩
  dsimp only [put, List.set, ev, nth, List.nil_append, List.cons_append, md, Nat.reducePow, Nat.reduceAdd, Nat.reduceMul]
  refine WL_det rfl (det_assign) ?_
  dsimp only [put, List.set, ev, nth, List.nil_append, List.cons_append, md, Nat.reducePow, Nat.reduceAdd, Nat.reduceMul]
  refine WL_nil ?_
  refine WC_seq ?_
  refine WC_region ?_
  refine WL_det rfl (det_arrTo (h := 16) Try.underlying22 Try.sizeOf5 rfl rfl (by decide)) ?_
  dsimp only [put, List.set, ev, nth, List.nil_append, List.cons_append, md, Nat.reducePow, Nat.reduceAdd, Nat.reduceMul]
  refine WL_det rfl (det_arrayAt Try.underlying71 rfl (by decide)) ?_
  dsimp only [put, List.set, ev, nth, List.nil_append, List.cons_append, md, Nat.reducePow, Nat.reduceAdd, Nat.reduceMul]
  refine WL_det rfl (det_loadPart0 0 Try.underlying71 i71 rfl rfl (by decide)) ?_
  dsimp only [put, List.set, ev, nth, List.nil_append, List.cons_append, md, Nat.reducePow, Nat.reduceAdd, Nat.reduceMul]
  refine WL_rel rfl (Rel_call rfl Try.call55 (fun w hw => clamp_spec (byt K) (fun i _ => byt_lt K i) w)) ?_
  rintro _ _ ⟨rfl, rfl⟩
  dsimp only [put, List.append_nil, List.set, ev, nth, List.nil_append, List.cons_append, md, Nat.reducePow, Nat.reduceAdd, Nat.reduceMul]
  refine WL_rel rfl (rel_alloc z71 rfl) ?_
  rintro _ _ ⟨b1, rfl, rfl⟩
  dsimp only [put, List.set, ev, nth, List.nil_append, List.cons_append, md, Nat.reducePow, Nat.reduceAdd, Nat.reduceMul]
  refine WL_chg rfl (chg_storeWA 1 Try.sizeOf71 rfl rfl rfl) ?_
  rintro _ _ rfl
  dsimp only [put, List.set, ev, nth, List.nil_append, List.cons_append, md, Nat.reducePow, Nat.reduceAdd, Nat.reduceMul]
  refine WL_nil ?_
  refine WC_seq ?_
  refine WC_region ?_
  refine WL_det rfl (det_sliceA Try.underlying71 Try.sizeOf5 rfl) ?_
  dsimp only [put, List.set, ev, nth, List.nil_append, List.cons_append, md, Nat.reducePow, Nat.reduceAdd, Nat.reduceMul]
  refine WL_det rfl (det_assign) ?_
  dsimp only [put, List.set, ev, nth, List.nil_append, List.cons_append, md, Nat.reducePow, Nat.reduceAdd, Nat.reduceMul]
  refine WL_nil ?_
  refine WC_ret ?_
  refine fin_tmp Try.results74 rfl ([_]) (.cons _ (List.Sublist.refl _)) ?_
  exact ⟨_, rfl, rfl⟩

set_option maxRecDepth 100000 in
set_option maxHeartbeats 400000 in
theorem tbytes_spec (N : Nat) (w : World) :
    Calls Try.prog 79 [.agg (arr .u32 17 (byt N))].toArray w (Post w (fun v m => ∃ e, RowN .u8 5 16 (byt N) v e ∧ m = [e])) := by
  refine calls_of_WC Try.func79 rfl ?_
  simp only [Try.ntmps79, List.length_cons, List.length_nil, Nat.reduceAdd, Nat.reduceSub, List.replicate, List.cons_append, List.nil_append]
  refine WC_seq ?_
  refine WC_region ?_
  refine WL_rel rfl (rel_box rfl rfl) ?_
  rintro _ _ ⟨b0, rfl, rfl⟩
  dsimp only [put, List.set, ev, nth, List.nil_append, List.cons_append, md, Nat.reducePow, Nat.reduceAdd, Nat.reduceMul]
  refine WL_det rfl (det_assign) ?_
  dsimp only [put, List.set, ev, nth, List.nil_append, List.cons_append, md, Nat.reducePow, Nat.reduceAdd, Nat.reduceMul]
  refine WL_nil ?_
  refine WC_seq ?_
  refine WC_region ?_
  refine WL_det rfl (det_loadWA 0 Try.underlying112 rfl i112 rfl rfl) ?_
  dsimp only [put, List.set, ev, nth, List.nil_append, List.cons_append, md, Nat.reducePow, Nat.reduceAdd, Nat.reduceMul]
  refine WL_rel rfl (Rel_call rfl Try.call82 (fun w hw => plain_spec N w)) ?_
  rintro _ _ ⟨rfl, rfl⟩
  dsimp only [put, List.append_nil, List.set, ev, nth, List.nil_append, List.cons_append, md, Nat.reducePow, Nat.reduceAdd, Nat.reduceMul]
  refine WL_rel rfl (rel_alloc z76 rfl) ?_
  rintro _ _ ⟨b1, rfl, rfl⟩
  dsimp only [put, List.set, ev, nth, List.nil_append, List.cons_append, md, Nat.reducePow, Nat.reduceAdd, Nat.reduceMul]
  refine WL_chg rfl (chg_storeWA 1 Try.sizeOf76 rfl rfl rfl) ?_
  rintro _ _ rfl
  dsimp only [put, List.set, ev, nth, List.nil_append, List.cons_append, md, Nat.reducePow, Nat.reduceAdd, Nat.reduceMul]
  refine WL_nil ?_
  refine WC_seq ?_
  refine WC_region ?_
  refine WL_rel rfl (rel_lit0 Try.underlying35 Try.sizeOf5) ?_
  rintro _ _ ⟨b2, rfl, rfl⟩
  dsimp only [put, List.set, ev, nth, List.nil_append, List.cons_append, md, Nat.reducePow, Nat.reduceAdd, Nat.reduceMul]
  refine WL_det rfl (det_arrTo (h := 16) Try.underlying76 Try.sizeOf5 rfl rfl (by decide)) ?_
  dsimp only [put, List.set, ev, nth, List.nil_append, List.cons_append, md, Nat.reducePow, Nat.reduceAdd, Nat.reduceMul]
  refine WL_chg rfl (chg_appendRd 2 rfl (RowN.empty .u8 5 (byt N) _) rfl rfl (fun w hw => Rd.arr hw 1 rfl (by decide)) Try.underlying35 ei5 rfl (by decide) (by decide)) ?_
  rintro v8 _ ⟨e8, hr8, rfl⟩
  dsimp only [put, List.eraseIdx, List.set, ev, nth, List.nil_append, List.cons_append, md, Nat.reducePow, Nat.reduceAdd, Nat.reduceMul]
  have hr8 : RowN .u8 5 16 (byt N) v8 e8 := RowN.congr hr8 fun i hi => by simp [catV]
  refine WL_det rfl (det_assign) ?_
  dsimp only [put, List.set, ev, nth, List.nil_append, List.cons_append, md, Nat.reducePow, Nat.reduceAdd, Nat.reduceMul]
  refine WL_nil ?_
  refine WC_ret ?_
  refine fin_tmp Try.results79 rfl ([e8]) (.cons _ (.cons _ (List.Sublist.refl _))) ?_
  exact ⟨_, hr8, rfl⟩

set_option maxRecDepth 100000 in
set_option maxHeartbeats 1000000 in
theorem tag_spec (K : Nat) (p1 : Option Addr) (q c1 b1 o1 : Nat) (tv : Nat → Value) (tn off : Nat → Nat) (tf : Nat → Nat → Nat) (F : Nat → Nat) (hp1 : 0 < q → p1 = some ⟨b1, o1, none⟩) (h0 : off 0 = 0) (hoff : ∀ i, off (i + 1) = off i + tn i) (hF : ∀ i, i < q → ∀ j, j < tn i → F (off i + j) = tf i j) (hN : off q ≤ 1000000) (hq : q ≤ 1000) (hb : ∀ i, i < off q → F i < 256) (w : World) (hx1 : ∀ i, i < q → w.cell? ⟨b1, o1 + i, none⟩ = some (tv i)) (ht : ∀ i, i < q → Rd w .u8 (tn i) (tf i) (tv i)) :
    Calls Try.prog 46 [.agg (arr .u8 32 (byt K)), .slice p1 q c1].toArray w (PostV w (.agg (arr .u8 16 (byt (tagZ F (off q) K))))) := by
  have hmono : ∀ d k, off k ≤ off (k + d) := fun d => by
    induction d with
    | zero => intro k; exact Nat.le_refl _
    | succ d ih => intro k; have h1 := ih k; have h2 := hoff (k + d); rw [← Nat.add_assoc]; omega
  refine calls_of_WC Try.func46 rfl ?_
  simp only [Try.ntmps46, List.length_cons, List.length_nil, Nat.reduceAdd, Nat.reduceSub, List.replicate, List.cons_append, List.nil_append]
  refine WC_seq ?_
  refine WC_region ?_
  refine WL_rel rfl (rel_box rfl rfl) ?_
  rintro _ _ ⟨b0, rfl, rfl⟩
  dsimp only [put, List.set, ev, nth, List.nil_append, List.cons_append, md, Nat.reducePow, Nat.reduceAdd, Nat.reduceMul]
  refine WL_rel rfl (rel_alloc z71 rfl) ?_
  rintro _ _ ⟨b1, rfl, rfl⟩
  dsimp only [put, List.set, ev, nth, List.nil_append, List.cons_append, md, Nat.reducePow, Nat.reduceAdd, Nat.reduceMul]
  refine WL_nil ?_
  refine WC_seq ?_
  refine WC_region ?_
  refine WL_det rfl (det_assign) ?_
  dsimp only [put, List.set, ev, nth, List.nil_append, List.cons_append, md, Nat.reducePow, Nat.reduceAdd, Nat.reduceMul]
  refine WL_nil ?_
  refine WC_seq ?_
  refine WC_seq ?_
  refine WC_region ?_
  refine WL_det rfl (det_move) ?_
  dsimp only [put, List.set, ev, nth, List.nil_append, List.cons_append, md, Nat.reducePow, Nat.reduceAdd, Nat.reduceMul]
  refine WL_det rfl (det_len Try.underlying110 rfl) ?_
  dsimp only [put, List.set, ev, nth, List.nil_append, List.cons_append, md, Nat.reducePow, Nat.reduceAdd, Nat.reduceMul]
  refine WL_det rfl (det_move) ?_
  dsimp only [put, List.set, ev, nth, List.nil_append, List.cons_append, md, Nat.reducePow, Nat.reduceAdd, Nat.reduceMul]
  refine WL_nil ?_
  refine WC_block ?_
  refine WC.addNone (.cells #[] 5 (0, 0)) ?_
  dsimp only [List.cons_append, List.nil_append]
  refine WC_loopS (ι := Nat × Value × (Option Nat × Obj)) [22, 23, 24, 7, 25, 26, 27, 28] (fun x => [(21, vn .i64 (x.1)), (5, x.2.1)]) (fun x => [(2, x.2.2)]) (fun x => x.1 ≤ q ∧ RowN .u8 5 (off x.1) F x.2.1 x.2.2) (fun x => q - x.1) (0, .slice none 0 0, (none, .cells #[] 5 (0, 0))) ?_ ?_ ?_ ?_
  · rfl
  · rfl
  · exact ⟨Nat.zero_le _, by rw [h0]; exact RowV.nil _ _ _⟩
  · rintro ⟨k, v5, e5⟩ g ⟨hk, hr5⟩
    dsimp only [setAll, setG, setM, List.set]
    dsimp only at hk hr5
    refine WC_seq ?_
    refine WC_region ?_
    refine WL_det rfl (det_lss rfl rfl) ?_
    dsimp only [put, List.set, ev, nth, List.nil_append, List.cons_append, md, Nat.reducePow, Nat.reduceAdd, Nat.reduceMul]
    refine WL_nil ?_
    refine WC_seq ?_
    refine WC_cond rfl (fun hc0 => ?_) (fun hc0 => ?_)
    · have hc0 := of_decide_eq_true hc0
      refine WC_skip ?_
      refine WC_seq ?_
      refine WC_block ?_
      refine WC_seq ?_
      refine WC_region ?_
      refine WL_det rfl (det_idxS Try.underlying110 Try.sizeOf35 rfl rfl (rfl) (by omega) (hp1 (by omega))) ?_
      dsimp only [put, List.set, ev, nth, List.nil_append, List.cons_append, md, Nat.reducePow, Nat.reduceAdd, Nat.reduceMul]
      refine WL_det rfl (det_loadF Try.isAgg35 rfl (hx1 _ (by omega))) ?_
      dsimp only [put, List.set, ev, nth, List.nil_append, List.cons_append, md, Nat.reducePow, Nat.reduceAdd, Nat.reduceMul]
      refine WL_det rfl (det_assign) ?_
      dsimp only [put, List.set, ev, nth, List.nil_append, List.cons_append, md, Nat.reducePow, Nat.reduceAdd, Nat.reduceMul]
      refine WL_nil ?_
      refine WC_region ?_
      refine WL_det rfl (det_move) ?_
      dsimp only [put, List.set, ev, nth, List.nil_append, List.cons_append, md, Nat.reducePow, Nat.reduceAdd, Nat.reduceMul]
      refine WL_det rfl (det_move) ?_
      dsimp only [put, List.set, ev, nth, List.nil_append, List.cons_append, md, Nat.reducePow, Nat.reduceAdd, Nat.reduceMul]
      refine WL_chg rfl (chg_appendRd 2 rfl (hr5) rfl rfl (fun w hw => (ht k hc0).far hw) Try.underlying35 ei5 rfl (by have h1 := hmono (q - (k + 1)) (k + 1); rw [show k + 1 + (q - (k + 1)) = q by omega, hoff] at h1; omega) (by decide)) ?_
      rintro v27 _ ⟨e27, hr27, rfl⟩
      dsimp only [put, List.eraseIdx, List.set, ev, nth, List.nil_append, List.cons_append, md, Nat.reducePow, Nat.reduceAdd, Nat.reduceMul]
      have hr27 : RowN .u8 5 (off (k + 1)) F v27 e27 := by rw [hoff]; exact RowN.more hr27 (hF k hc0)
      refine WL_det rfl (det_assign) ?_
      dsimp only [put, List.set, ev, nth, List.nil_append, List.cons_append, md, Nat.reducePow, Nat.reduceAdd, Nat.reduceMul]
      refine WL_nil ?_
      refine WC_region ?_
      refine WL_det rfl (det_addi (q := 1) rfl rfl (by omega)) ?_
      dsimp only [put, List.set, ev, nth, List.nil_append, List.cons_append, md, Nat.reducePow, Nat.reduceAdd, Nat.reduceMul]
      refine WL_det rfl (det_move) ?_
      dsimp only [put, List.set, ev, nth, List.nil_append, List.cons_append, md, Nat.reducePow, Nat.reduceAdd, Nat.reduceMul]
      refine WL_nil ?_
      refine ⟨(k + 1, v27, e27), ?_, ?_, ?_, ?_⟩
      · rfl
      · rfl
      · exact ⟨by dsimp only; omega, hr27⟩
      · dsimp only; omega
    · have hc0 := of_decide_eq_false hc0
      obtain rfl : q = k := by omega
      refine WC_exit ?_
      refine inB_same ?_
      refine WC_seq ?_
      refine WC_region ?_
      refine WL_rel rfl (rel_lit0 Try.underlying35 Try.sizeOf5) ?_
      rintro _ _ ⟨b3, rfl, rfl⟩
      dsimp only [put, List.set, ev, nth, List.nil_append, List.cons_append, md, Nat.reducePow, Nat.reduceAdd, Nat.reduceMul]
      refine WL_det rfl (det_loadWA 0 Try.underlying22 rfl i22 rfl rfl) ?_
      dsimp only [put, List.set, ev, nth, List.nil_append, List.cons_append, md, Nat.reducePow, Nat.reduceAdd, Nat.reduceMul]
      refine WL_rel rfl (Rel_call rfl Try.call74 (fun w hw => clamped_spec K w)) ?_
      rintro _ _ ⟨b4, rfl, rfl⟩
      dsimp only [put, List.append_nil, List.set, ev, nth, List.nil_append, List.cons_append, md, Nat.reducePow, Nat.reduceAdd, Nat.reduceMul]
      refine WL_chg rfl (chg_appendRd 3 rfl (RowN.empty .u8 5 (clf (byt K)) _) rfl rfl (fun w hw => Rd.arr hw 4 rfl (Nat.le_refl _)) Try.underlying35 ei5 rfl (by decide) (by decide)) ?_
      rintro v33 _ ⟨e33, hr33, rfl⟩
      dsimp only [put, List.eraseIdx, List.set, ev, nth, List.nil_append, List.cons_append, md, Nat.reducePow, Nat.reduceAdd, Nat.reduceMul]
      have hr33 : RowN .u8 5 16 (clf (byt K)) v33 e33 := RowN.congr hr33 fun i hi => by simp [catV]
      refine WL_rel rfl (Rel_call rfl Try.call57 (fun w hw => pof_small 16 (clf (byt K)) (fun i _ => clf_lt _ i (byt_lt K i)) (by decide) _ w (Rd.row hw 3 rfl hr33))) ?_
      rintro _ _ ⟨rfl, rfl⟩
      dsimp only [put, List.append_nil, List.set, ev, nth, List.nil_append, List.cons_append, md, Nat.reducePow, Nat.reduceAdd, Nat.reduceMul]
      rw [show lev (clf (byt K)) 16 % Pp = tagR K from rfl]
      refine WL_det rfl (det_move) ?_
      dsimp only [put, List.set, ev, nth, List.nil_append, List.cons_append, md, Nat.reducePow, Nat.reduceAdd, Nat.reduceMul]
      refine WL_det rfl (det_extract rfl rfl) ?_
      dsimp only [put, List.set, ev, nth, List.nil_append, List.cons_append, md, Nat.reducePow, Nat.reduceAdd, Nat.reduceMul]
      refine WL_det rfl (det_extract rfl rfl) ?_
      dsimp only [put, List.set, ev, nth, List.nil_append, List.cons_append, md, Nat.reducePow, Nat.reduceAdd, Nat.reduceMul]
      refine WL_rel rfl (rel_alloc z76 rfl) ?_
      rintro _ _ ⟨b5, rfl, rfl⟩
      dsimp only [put, List.set, ev, nth, List.nil_append, List.cons_append, md, Nat.reducePow, Nat.reduceAdd, Nat.reduceMul]
      refine WL_chg rfl (chg_storeWA 5 Try.sizeOf76 rfl rfl rfl) ?_
      rintro _ _ rfl
      dsimp only [put, List.set, ev, nth, List.nil_append, List.cons_append, md, Nat.reducePow, Nat.reduceAdd, Nat.reduceMul]
      refine WL_det rfl (det_assign) ?_
      dsimp only [put, List.set, ev, nth, List.nil_append, List.cons_append, md, Nat.reducePow, Nat.reduceAdd, Nat.reduceMul]
      refine WL_nil ?_
      refine WC_seq ?_
      refine WC_region ?_
      refine WL_det rfl (det_arrFrom (l := 16) Try.underlying22 Try.sizeOf5 rfl rfl (by decide)) ?_
      dsimp only [put, List.set, ev, nth, List.nil_append, List.cons_append, md, Nat.reducePow, Nat.reduceAdd, Nat.reduceMul]
      refine WL_rel rfl (Rel_call rfl Try.call57 (fun w hw => pof_small 16 (fun j => byt K (16 + j)) (fun i _ => byt_lt K _) (by decide) _ w (Rd.cells hw 0 rfl (fun j hj => arr_get _ _ _ (by omega))))) ?_
      rintro _ _ ⟨rfl, rfl⟩
      dsimp only [put, List.append_nil, List.set, ev, nth, List.nil_append, List.cons_append, md, Nat.reducePow, Nat.reduceAdd, Nat.reduceMul]
      rw [show lev (fun j => byt K (16 + j)) 16 % Pp = tagS K from rfl]
      refine WL_det rfl (det_move) ?_
      dsimp only [put, List.set, ev, nth, List.nil_append, List.cons_append, md, Nat.reducePow, Nat.reduceAdd, Nat.reduceMul]
      refine WL_det rfl (det_extract rfl rfl) ?_
      dsimp only [put, List.set, ev, nth, List.nil_append, List.cons_append, md, Nat.reducePow, Nat.reduceAdd, Nat.reduceMul]
      refine WL_det rfl (det_extract rfl rfl) ?_
      dsimp only [put, List.set, ev, nth, List.nil_append, List.cons_append, md, Nat.reducePow, Nat.reduceAdd, Nat.reduceMul]
      refine WL_rel rfl (rel_alloc z76 rfl) ?_
      rintro _ _ ⟨b6, rfl, rfl⟩
      dsimp only [put, List.set, ev, nth, List.nil_append, List.cons_append, md, Nat.reducePow, Nat.reduceAdd, Nat.reduceMul]
      refine WL_chg rfl (chg_storeWA 6 Try.sizeOf76 rfl rfl rfl) ?_
      rintro _ _ rfl
      dsimp only [put, List.set, ev, nth, List.nil_append, List.cons_append, md, Nat.reducePow, Nat.reduceAdd, Nat.reduceMul]
      refine WL_det rfl (det_assign) ?_
      dsimp only [put, List.set, ev, nth, List.nil_append, List.cons_append, md, Nat.reducePow, Nat.reduceAdd, Nat.reduceMul]
      refine WL_nil ?_
      refine WC_seq ?_
      refine WC_region ?_
      refine WL_det rfl (det_build0 z112 Try.underlying112 Try.sizeOf24) ?_
      dsimp only [put, List.set, ev, nth, List.nil_append, List.cons_append, md, Nat.reducePow, Nat.reduceAdd, Nat.reduceMul]
      refine WL_det rfl (det_loadWA 5 Try.underlying76 rfl i76 rfl rfl) ?_
      dsimp only [put, List.set, ev, nth, List.nil_append, List.cons_append, md, Nat.reducePow, Nat.reduceAdd, Nat.reduceMul]
      refine WL_rel rfl (Rel_call rfl Try.call75 (fun w hw => wide_spec (tagR K) w)) ?_
      rintro _ _ ⟨rfl, rfl⟩
      dsimp only [put, List.append_nil, List.set, ev, nth, List.nil_append, List.cons_append, md, Nat.reducePow, Nat.reduceAdd, Nat.reduceMul]
      refine WL_rel rfl (rel_alloc z112 rfl) ?_
      rintro _ _ ⟨b7, rfl, rfl⟩
      dsimp only [put, List.set, ev, nth, List.nil_append, List.cons_append, md, Nat.reducePow, Nat.reduceAdd, Nat.reduceMul]
      refine WL_rel rfl (rel_alloc z112 rfl) ?_
      rintro _ _ ⟨b8, rfl, rfl⟩
      dsimp only [put, List.set, ev, nth, List.nil_append, List.cons_append, md, Nat.reducePow, Nat.reduceAdd, Nat.reduceMul]
      refine WL_chg rfl (chg_storeWA 7 Try.sizeOf112 rfl rfl rfl) ?_
      rintro _ _ rfl
      dsimp only [put, List.set, ev, nth, List.nil_append, List.cons_append, md, Nat.reducePow, Nat.reduceAdd, Nat.reduceMul]
      refine WL_chg rfl (chg_storeWA 8 Try.sizeOf112 rfl rfl rfl) ?_
      rintro _ _ rfl
      dsimp only [put, List.set, ev, nth, List.nil_append, List.cons_append, md, Nat.reducePow, Nat.reduceAdd, Nat.reduceMul]
      refine WL_nil ?_
      refine WC_seq ?_
      refine WC_block ?_
      refine WC_loopS (ι := Nat × Value) [45, 46, 47, 48, 49, 50, 14, 15, 51, 52, 53, 54, 55, 56, 57, 58, 59, 60, 61, 62, 16, 63, 64, 65, 17, 66, 67, 68, 69, 70, 71, 72, 73, 74, 75, 76, 77] (fun x => [(5, x.2)]) (fun x => [(7, (some b7, .cells (arr .u32 17 (pt (tagX F (off q) (tagR K) x.1))) 112 (0, 0)))]) (fun x => 16 * x.1 ≤ off q + 15 ∧ SubN .u8 5 (off q - 16 * x.1) (fun i => F (16 * x.1 + i)) x.2 e5) (fun x => off q - 16 * x.1) (0, v5) ?_ ?_ ?_ ?_
      · rfl
      · rw [arr_congr (f := pt (tagX F (off q) (tagR K) 0)) (g := fun _ => 0) (fun i _ => pt_zero i)]
        try rfl
      · exact ⟨by omega, SubN.congr (SubN.ofRow hr5) fun i _ => by rw [Nat.mul_zero, Nat.zero_add]⟩
      · rintro ⟨k, v5⟩ g ⟨hk, hs5⟩
        dsimp only [setAll, setG, setM, List.set]
        dsimp only at hk hs5
        have hs50 := hs5
        obtain ⟨p5, c5, b5, o5, cur5, rfl, hle5, hh5⟩ := hs5
        refine WC_seq ?_
        refine WC_seq ?_
        refine WC_region ?_
        refine WL_det rfl (det_move) ?_
        dsimp only [put, List.set, ev, nth, List.nil_append, List.cons_append, md, Nat.reducePow, Nat.reduceAdd, Nat.reduceMul]
        refine WL_det rfl (det_len Try.underlying35 rfl) ?_
        dsimp only [put, List.set, ev, nth, List.nil_append, List.cons_append, md, Nat.reducePow, Nat.reduceAdd, Nat.reduceMul]
        refine WL_det rfl (det_gtr (q := 0) rfl rfl) ?_
        dsimp only [put, List.set, ev, nth, List.nil_append, List.cons_append, md, Nat.reducePow, Nat.reduceAdd, Nat.reduceMul]
        refine WL_nil ?_
        refine WC_cond rfl (fun hc1 => ?_) (fun hc1 => ?_)
        · have hc1 := of_decide_eq_true hc1
          obtain ⟨rfl, rfl, hcur5⟩ := hh5 hc1
          refine WC_skip ?_
          refine WC_block ?_
          refine WC_seq ?_
          refine WC_region ?_
          refine WL_det rfl (det_move) ?_
          dsimp only [put, List.set, ev, nth, List.nil_append, List.cons_append, md, Nat.reducePow, Nat.reduceAdd, Nat.reduceMul]
          refine WL_det rfl (det_len Try.underlying35 rfl) ?_
          dsimp only [put, List.set, ev, nth, List.nil_append, List.cons_append, md, Nat.reducePow, Nat.reduceAdd, Nat.reduceMul]
          refine WL_det rfl (det_min (q := 16) rfl rfl) ?_
          dsimp only [put, List.set, ev, nth, List.nil_append, List.cons_append, md, Nat.reducePow, Nat.reduceAdd, Nat.reduceMul]
          obtain ⟨n, hn⟩ : ∃ n, n = min (off q - 16 * k) 16 := ⟨_, rfl⟩
          rw [← hn]
          refine WL_det rfl (det_assign) ?_
          dsimp only [put, List.set, ev, nth, List.nil_append, List.cons_append, md, Nat.reducePow, Nat.reduceAdd, Nat.reduceMul]
          refine WL_nil ?_
          refine WC_seq ?_
          refine WC_region ?_
          refine WL_rel rfl (rel_alloc z76 rfl) ?_
          rintro _ _ ⟨b9, rfl, rfl⟩
          dsimp only [put, List.set, ev, nth, List.nil_append, List.cons_append, md, Nat.reducePow, Nat.reduceAdd, Nat.reduceMul]
          refine WL_nil ?_
          refine WC_seq ?_
          refine WC_draw [[], [], [], [1, 2], [0, 1, 2, 3]] [4] 87 [] (List.nil_sublist _) mixed rfl (by decide) ?_
          refine RW.pure rfl rfl (fun _ => rfl) (fun V hV => det_sliceA Try.underlying76 Try.sizeOf5 rfl) (fun _ _ _ => rfl) ?_
          dsimp only [put, List.set, ev, nth, List.nil_append, List.cons_append, md, Nat.reducePow, Nat.reduceAdd, Nat.reduceMul]
          refine RW.pure rfl rfl (fun _ => rfl) (fun V hV => det_move) (fun _ _ _ => rfl) ?_
          dsimp only [put, List.set, ev, nth, List.nil_append, List.cons_append, md, Nat.reducePow, Nat.reduceAdd, Nat.reduceMul]
          refine RW.pure rfl rfl (fun _ => rfl) (fun V hV => det_move) (fun _ _ _ => rfl) ?_
          dsimp only [put, List.set, ev, nth, List.nil_append, List.cons_append, md, Nat.reducePow, Nat.reduceAdd, Nat.reduceMul]
          refine RW.pure rfl rfl (fun _ => rfl) (fun V hV => det_cutTo Try.underlying35 Try.sizeOf5 rfl rfl (by omega)) (fun _ _ _ => rfl) ?_
          dsimp only [put, List.set, ev, nth, List.nil_append, List.cons_append, md, Nat.reducePow, Nat.reduceAdd, Nat.reduceMul]
          refine RW.tail' (B := fun V => _ ++ flat [] V) rfl rfl rfl rfl (fun _ => rfl) (fun V hV => chg_copy 9 Try.underlying35 i5 rfl rfl (by decide) rfl (fun w hw => SubN.rd hw 2 rfl (SubN.take hs50 (by omega)))) (fun _ _ _ _ _ h => h) (fun _ _ _ _ _ => List.nil_sublist _) ?_
          dsimp only [put, List.set, ev, nth, List.nil_append, List.cons_append, md, Nat.reducePow, Nat.reduceAdd, Nat.reduceMul]
          refine RW.done (fun V => (V 4).2) rfl rfl (fun _ => rfl) (fun V hV => ?_)
          have ht4 : (V 4).2 = _ := (hV 4 _ rfl).2
          simp only [ht4, flat_nil]
          try dsimp only [put, blk, flat_nil, List.append_nil, List.append, List.eraseIdx, List.set, ev, nth, List.nil_append, List.cons_append, md, Nat.reducePow, Nat.reduceAdd, Nat.reduceMul]
          clear hV ht4
          refine WC_seq ?_
          refine WC_region ?_
          refine WL_det rfl (det_move) ?_
          dsimp only [put, List.set, ev, nth, List.nil_append, List.cons_append, md, Nat.reducePow, Nat.reduceAdd, Nat.reduceMul]
          refine WL_det rfl (det_idxA Try.underlying76 Try.sizeOf5 rfl rfl (rfl) (by omega)) ?_
          dsimp only [put, List.set, ev, nth, List.nil_append, List.cons_append, md, Nat.reducePow, Nat.reduceAdd, Nat.reduceMul]
          refine WL_chg rfl (chg_storeA 9 Try.sizeOf5 rfl rfl (by omega) rfl) ?_
          rintro _ _ rfl
          dsimp only [put, List.set, ev, nth, List.nil_append, List.cons_append, md, Nat.reducePow, Nat.reduceAdd, Nat.reduceMul]
          refine WL_nil ?_
          refine WC_seq ?_
          refine WC_region ?_
          refine WL_det rfl (det_move) ?_
          dsimp only [put, List.set, ev, nth, List.nil_append, List.cons_append, md, Nat.reducePow, Nat.reduceAdd, Nat.reduceMul]
          refine WL_det rfl (det_move) ?_
          dsimp only [put, List.set, ev, nth, List.nil_append, List.cons_append, md, Nat.reducePow, Nat.reduceAdd, Nat.reduceMul]
          refine WL_det rfl (det_cutFrom Try.underlying35 Try.sizeOf5 rfl rfl (by omega)) ?_
          dsimp only [put, List.set, ev, nth, List.nil_append, List.cons_append, md, Nat.reducePow, Nat.reduceAdd, Nat.reduceMul]
          obtain ⟨v60, hv60⟩ : ∃ v, v = Value.slice (if c5 = n then some ⟨b5, o5, none⟩ else (some (⟨b5, o5, none⟩ : Addr)).map (·.add n)) (off q - 16 * k - n) (c5 - n) := ⟨_, rfl⟩
          rw [← hv60]
          have hs60 : SubN .u8 5 (off q - 16 * k - n) (fun i => F (16 * k + (n + i))) v60 (some b5, .cells cur5 5 (0, 0)) := by rw [hv60]; exact SubN.drop hs50 (by omega)
          refine WL_det rfl (det_assign) ?_
          dsimp only [put, List.set, ev, nth, List.nil_append, List.cons_append, md, Nat.reducePow, Nat.reduceAdd, Nat.reduceMul]
          refine WL_nil ?_
          refine WC_seq ?_
          refine WC_region ?_
          rw [arr_congr (f := upd (cpy (fun _ => 0) (fun i => F (16 * k + i)) 0 (min n 17)) n 1) (g := byt (pieceN F (off q) k)) (by rw [pieceN, ← hn]; exact piece_cells _ n (by omega) fun i hi => hb _ (by omega))]
          refine WL_det rfl (det_loadWA 9 Try.underlying76 rfl i76 rfl rfl) ?_
          dsimp only [put, List.set, ev, nth, List.nil_append, List.cons_append, md, Nat.reducePow, Nat.reduceAdd, Nat.reduceMul]
          refine WL_rel rfl (Rel_call rfl Try.call75 (fun w hw => wide_spec (pieceN F (off q) k) w)) ?_
          rintro _ _ ⟨rfl, rfl⟩
          dsimp only [put, List.append_nil, List.set, ev, nth, List.nil_append, List.cons_append, md, Nat.reducePow, Nat.reduceAdd, Nat.reduceMul]
          refine WL_rel rfl (rel_alloc z112 rfl) ?_
          rintro _ _ ⟨b10, rfl, rfl⟩
          dsimp only [put, List.set, ev, nth, List.nil_append, List.cons_append, md, Nat.reducePow, Nat.reduceAdd, Nat.reduceMul]
          refine WL_chg rfl (chg_storeWA 10 Try.sizeOf112 rfl rfl rfl) ?_
          rintro _ _ rfl
          dsimp only [put, List.set, ev, nth, List.nil_append, List.cons_append, md, Nat.reducePow, Nat.reduceAdd, Nat.reduceMul]
          refine WL_nil ?_
          refine WC_seq ?_
          refine WC_seq ?_
          refine WC_region ?_
          refine WL_det rfl (det_move) ?_
          dsimp only [put, List.set, ev, nth, List.nil_append, List.cons_append, md, Nat.reducePow, Nat.reduceAdd, Nat.reduceMul]
          refine WL_nil ?_
          refine WC_block ?_
          refine WC_loopS (ι := Nat) [64, 65, 17, 66, 67, 68, 69, 70, 71, 72, 73, 74] (fun i => [(63, vn .i64 (i))]) (fun i => [(7, (some b7, .cells (arr .u32 17 (ad2 (pt (tagX F (off q) (tagR K) k)) (byt (pieceN F (off q) k)) i)) 112 (0, 0)))]) (fun i => i ≤ 17) (fun i => 17 - i) 0 ?_ ?_ ?_ ?_
          · rfl
          · rw [ad2_zero]
            try rfl
          · exact (by omega)
          · intro i g hI
            dsimp only [setAll, setG, setM, List.set]
            have hpx := tag_le (tagX F (off q) (tagR K) k) (pieceN F (off q) k) i (tagX_lt _ _ _ _)
            refine WC_seq ?_
            refine WC_region ?_
            refine WL_det rfl (det_lss (q := 17) rfl rfl) ?_
            dsimp only [put, List.set, ev, nth, List.nil_append, List.cons_append, md, Nat.reducePow, Nat.reduceAdd, Nat.reduceMul]
            refine WL_nil ?_
            refine WC_seq ?_
            refine WC_cond rfl (fun hc2 => ?_) (fun hc2 => ?_)
            · have hc2 := of_decide_eq_true hc2
              refine WC_skip ?_
              refine WC_seq ?_
              refine WC_block ?_
              refine WC_seq ?_
              refine WC_region ?_
              refine WL_det rfl (det_move) ?_
              dsimp only [put, List.set, ev, nth, List.nil_append, List.cons_append, md, Nat.reducePow, Nat.reduceAdd, Nat.reduceMul]
              refine WL_det rfl (det_assign) ?_
              dsimp only [put, List.set, ev, nth, List.nil_append, List.cons_append, md, Nat.reducePow, Nat.reduceAdd, Nat.reduceMul]
              refine WL_nil ?_
              refine WC_draw [[], [0], [0, 1], [], [3], [3, 4], [0, 1, 2, 3, 4, 5], [0, 1, 2, 3, 4, 5, 6], [0, 1, 2, 3, 4, 5, 6, 7]] [8] 87 [] (List.nil_sublist _) mixed rfl (by decide) ?_
              refine RW.pure rfl rfl (fun _ => rfl) (fun V hV => det_move) (fun _ _ _ => rfl) ?_
              dsimp only [put, List.set, ev, nth, List.nil_append, List.cons_append, md, Nat.reducePow, Nat.reduceAdd, Nat.reduceMul]
              refine RW.pure rfl rfl (fun _ => rfl) (fun V hV => det_idxA Try.underlying112 Try.sizeOf24 rfl rfl (rfl) (by omega)) (fun _ _ _ => rfl) ?_
              dsimp only [put, List.set, ev, nth, List.nil_append, List.cons_append, md, Nat.reducePow, Nat.reduceAdd, Nat.reduceMul]
              refine RW.det [] rfl rfl rfl rfl (fun _ => rfl) (fun V hV => Det.rel (det_loadA 7 Try.isAgg24 rfl rfl (by omega))) (fun _ _ _ => rfl) ?_
              dsimp only [put, List.set, ev, nth, List.nil_append, List.cons_append, md, Nat.reducePow, Nat.reduceAdd, Nat.reduceMul]
              rw [ad2_at]
              refine RW.pure rfl rfl (fun _ => rfl) (fun V hV => det_move) (fun _ _ _ => rfl) ?_
              dsimp only [put, List.set, ev, nth, List.nil_append, List.cons_append, md, Nat.reducePow, Nat.reduceAdd, Nat.reduceMul]
              refine RW.pure rfl rfl (fun _ => rfl) (fun V hV => det_idxA Try.underlying112 Try.sizeOf24 rfl rfl (rfl) (by omega)) (fun _ _ _ => rfl) ?_
              dsimp only [put, List.set, ev, nth, List.nil_append, List.cons_append, md, Nat.reducePow, Nat.reduceAdd, Nat.reduceMul]
              refine RW.det [] rfl rfl rfl rfl (fun _ => rfl) (fun V hV => Det.rel (det_loadA 10 Try.isAgg24 rfl rfl (by omega))) (fun _ _ _ => rfl) ?_
              dsimp only [put, List.set, ev, nth, List.nil_append, List.cons_append, md, Nat.reducePow, Nat.reduceAdd, Nat.reduceMul]
              refine RW.pure rfl rfl (fun _ => rfl) (fun V hV => det_add' rfl rfl rfl (by simp only [md]; omega)) (fun _ _ _ => rfl) ?_
              dsimp only [put, List.set, ev, nth, List.nil_append, List.cons_append, md, Nat.reducePow, Nat.reduceAdd, Nat.reduceMul]
              refine RW.pure rfl rfl (fun _ => rfl) (fun V hV => det_idxA Try.underlying112 Try.sizeOf24 rfl rfl (rfl) (by omega)) (fun _ _ _ => rfl) ?_
              dsimp only [put, List.set, ev, nth, List.nil_append, List.cons_append, md, Nat.reducePow, Nat.reduceAdd, Nat.reduceMul]
              refine RW.tail' (B := fun V => _ ++ flat [] V) rfl rfl rfl rfl (fun _ => rfl) (fun V hV => chg_storeA 7 Try.sizeOf24 rfl rfl (by omega) rfl) (fun _ _ _ _ _ h => h) (fun _ _ _ _ _ => List.nil_sublist _) ?_
              dsimp only [put, List.set, ev, nth, List.nil_append, List.cons_append, md, Nat.reducePow, Nat.reduceAdd, Nat.reduceMul]
              refine RW.done (fun V => (V 8).2) rfl rfl (fun _ => rfl) (fun V hV => ?_)
              have ht8 : (V 8).2 = _ := hV 8 _ rfl
              simp only [ht8, flat_nil]
              try dsimp only [put, blk, flat_nil, List.append_nil, List.append, List.eraseIdx, List.set, ev, nth, List.nil_append, List.cons_append, md, Nat.reducePow, Nat.reduceAdd, Nat.reduceMul]
              clear hV ht8
              refine WC_region ?_
              refine WL_det rfl (det_addi (q := 1) rfl rfl (by omega)) ?_
              dsimp only [put, List.set, ev, nth, List.nil_append, List.cons_append, md, Nat.reducePow, Nat.reduceAdd, Nat.reduceMul]
              refine WL_det rfl (det_move) ?_
              dsimp only [put, List.set, ev, nth, List.nil_append, List.cons_append, md, Nat.reducePow, Nat.reduceAdd, Nat.reduceMul]
              refine WL_nil ?_
              refine ⟨i + 1, ?_, ?_, ?_, ?_⟩
              · rfl
              · rw [ad2_succ]
                try rfl
              · omega
              · omega
            · have hc2 := of_decide_eq_false hc2
              obtain rfl : i = 17 := by omega
              rw [arr_congr (f := ad2 (pt (tagX F (off q) (tagR K) k)) (byt (pieceN F (off q) k)) 17) (g := fun i => pt (tagX F (off q) (tagR K) k) i + byt (pieceN F (off q) k) i) (ad2_all _ _ 17)]
              refine WC_exit ?_
              refine inB_same ?_
              refine WC_region ?_
              refine WL.forget (.cons_cons _ (.cons_cons _ (.cons_cons _ (.cons_cons _ (.cons_cons _ (.cons_cons _ (.cons_cons _ (.cons_cons _ (.cons_cons _ (.cons _ (.cons _ .slnil))))))))))) ?_
              refine WL_det rfl (det_loadWA 7 Try.underlying112 rfl i112 rfl rfl) ?_
              dsimp only [put, List.set, ev, nth, List.nil_append, List.cons_append, md, Nat.reducePow, Nat.reduceAdd, Nat.reduceMul]
              refine WL_det rfl (det_loadWA 8 Try.underlying112 rfl i112 rfl rfl) ?_
              dsimp only [put, List.set, ev, nth, List.nil_append, List.cons_append, md, Nat.reducePow, Nat.reduceAdd, Nat.reduceMul]
              refine WL_rel rfl (Rel_call rfl Try.call76 (fun w hw => product_spec (fun i => pt (tagX F (off q) (tagR K) k) i + byt (pieceN F (off q) k) i) (byt (tagR K)) (fun i _ => tag_le _ _ i (tagX_lt _ _ _ _)) (fun i => by have := byt_lt (tagR K) i; omega) w)) ?_
              rintro _ _ ⟨rfl, rfl⟩
              dsimp only [put, List.append_nil, List.set, ev, nth, List.nil_append, List.cons_append, md, Nat.reducePow, Nat.reduceAdd, Nat.reduceMul]
              refine WL_chg rfl (chg_storeWA 7 Try.sizeOf112 rfl rfl rfl) ?_
              rintro _ _ rfl
              dsimp only [put, List.set, ev, nth, List.nil_append, List.cons_append, md, Nat.reducePow, Nat.reduceAdd, Nat.reduceMul]
              refine WL_nil ?_
              refine ⟨(k + 1, v60), ?_, ?_, ?_, ?_⟩
              · rfl
              · rfl
              · exact ⟨by dsimp only; omega, by dsimp only; rw [show off q - 16 * (k + 1) = off q - 16 * k - n by omega]; exact SubN.congr hs60 fun i hi => by rw [show 16 * k + (n + i) = 16 * (k + 1) + i by omega]⟩
              · dsimp only; omega
        · have hc1 := of_decide_eq_false hc1
          obtain rfl : (off q + 15) / 16 = k := by omega
          refine WC_exit ?_
          refine inB_same ?_
          refine WC_seq ?_
          refine WC_draw [[], [0], [], [0, 1, 2], [0, 1, 2, 3], [], [0, 1, 2, 3, 4, 5]] [6] 87 [] (List.nil_sublist _) mixed rfl (by decide) ?_
          refine RW.det [] rfl rfl rfl rfl (fun _ => rfl) (fun V hV => Det.rel (det_loadWA 7 Try.underlying112 rfl i112 rfl rfl)) (fun _ _ _ => rfl) ?_
          dsimp only [put, List.set, ev, nth, List.nil_append, List.cons_append, md, Nat.reducePow, Nat.reduceAdd, Nat.reduceMul]
          refine RW.det [] rfl rfl rfl rfl (fun _ => rfl) (fun V hV => Rel_call rfl Try.call77 (fun w hw => redpt _ (tagX_lt _ _ _ _) w)) (fun _ _ _ => rfl) ?_
          dsimp only [put, List.set, ev, nth, List.nil_append, List.cons_append, md, Nat.reducePow, Nat.reduceAdd, Nat.reduceMul]
          refine RW.det [] rfl rfl rfl rfl (fun _ => rfl) (fun V hV => Det.rel (det_loadWA 6 Try.underlying76 rfl i76 rfl rfl)) (fun _ _ _ => rfl) ?_
          dsimp only [put, List.set, ev, nth, List.nil_append, List.cons_append, md, Nat.reducePow, Nat.reduceAdd, Nat.reduceMul]
          refine RW.det [] rfl rfl rfl rfl (fun _ => rfl) (fun V hV => Rel_call rfl Try.call75 (fun w hw => wide_spec (tagS K) w)) (fun _ _ _ => rfl) ?_
          dsimp only [put, List.set, ev, nth, List.nil_append, List.cons_append, md, Nat.reducePow, Nat.reduceAdd, Nat.reduceMul]
          refine RW.det [] rfl rfl rfl rfl (fun _ => rfl) (fun V hV => Rel_call rfl Try.call78 (fun w hw => sumbyt _ _ (Nat.mod_lt _ Pp_pos) (tagS_lt K) w)) (fun _ _ _ => rfl) ?_
          dsimp only [put, List.set, ev, nth, List.nil_append, List.cons_append, md, Nat.reducePow, Nat.reduceAdd, Nat.reduceMul]
          refine RW.rel' (R0 := fun _ => IsNew (arr .u32 17 fun _ => 0) 112) [] rfl rfl rfl rfl (fun _ => rfl) rfl (fun V hV => draw_alloc z112 rfl) (fun _ _ _ _ _ h => h) ?_
          dsimp only [put, List.set, ev, nth, List.nil_append, List.cons_append, md, Nat.reducePow, Nat.reduceAdd, Nat.reduceMul]
          refine RW.tail' (B := fun V => _ ++ flat [5] V) rfl rfl rfl rfl (fun _ => rfl) (fun V hV => chg_storeWA 9 Try.sizeOf112 (IsNew.ptr (hV 5 (by decide) _ rfl)) (by have e5 : (V 5).2 = _ := IsNew.mem (hV 5 (by decide) _ rfl); simp only [flat_cons, flat_nil, e5]; rfl) rfl) (fun V V' hV _ _ h => by simpa only [flat_cons, flat_nil, hV 5 (by decide)] using h) (fun _ _ _ _ _ => List.nil_sublist _) ?_
          dsimp only [put, List.set, ev, nth, List.nil_append, List.cons_append, md, Nat.reducePow, Nat.reduceAdd, Nat.reduceMul]
          refine RW.done (fun V => (V 6).2) rfl rfl (fun _ => rfl) (fun V hV => ?_)
          obtain ⟨b9, hp9, hq9⟩ : IsNew _ _ (V 5).1 (V 5).2 := hV 5 _ rfl
          have ht6 : (V 6).2 = _ := hV 6 _ rfl
          simp only [hp9, hq9, ht6, flat_cons, flat_nil]
          try dsimp only [put, blk, flat_nil, List.append_nil, List.append, List.eraseIdx, List.set, ev, nth, List.nil_append, List.cons_append, md, Nat.reducePow, Nat.reduceAdd, Nat.reduceMul]
          clear hV hp9 hq9 ht6
          refine WC_seq ?_
          refine WC_region ?_
          refine WL_det rfl (det_loadWA 9 Try.underlying112 rfl i112 rfl rfl) ?_
          dsimp only [put, List.set, ev, nth, List.nil_append, List.cons_append, md, Nat.reducePow, Nat.reduceAdd, Nat.reduceMul]
          refine WL_rel rfl (Rel_call rfl Try.call79 (fun w hw => tbytes_spec _ w)) ?_
          rintro _ _ ⟨_, hr84, rfl⟩
          obtain ⟨b84, c84, cur84, rfl, rfl, hle84, hmx84, hsz84, hcur84⟩ := RowV.pos hr84 (by decide)
          dsimp only [put, List.append_nil, List.set, ev, nth, List.nil_append, List.cons_append, md, Nat.reducePow, Nat.reduceAdd, Nat.reduceMul]
          refine WL_det rfl (det_arrayAt Try.underlying71 rfl (by decide)) ?_
          dsimp only [put, List.set, ev, nth, List.nil_append, List.cons_append, md, Nat.reducePow, Nat.reduceAdd, Nat.reduceMul]
          refine WL_det rfl (det_loadRd (k := .u8) (f := byt (tagZ F (off q) K)) Try.underlying71 i71 rfl (fun w hw j hj => by have h := hcur84 j hj; simp only [World.cell?, hw.at 10 rfl, Nat.zero_add]; exact h)) ?_
          dsimp only [put, List.set, ev, nth, List.nil_append, List.cons_append, md, Nat.reducePow, Nat.reduceAdd, Nat.reduceMul]
          refine WL_chg rfl (chg_storeWA 1 Try.sizeOf71 rfl rfl rfl) ?_
          rintro _ _ rfl
          dsimp only [put, List.set, ev, nth, List.nil_append, List.cons_append, md, Nat.reducePow, Nat.reduceAdd, Nat.reduceMul]
          refine WL_nil ?_
          refine WC_ret ?_
          refine fin_cell 1 Try.results46 rfl rfl Try.underlying71 rfl i71 (arr_size _ _ _) ([]) (List.nil_sublist _) ?_
          exact ⟨rfl, rfl⟩

end Go.Proofs.Ytpmldkhgdpchjaa

set_option linter.unusedVariables false
namespace Go.Proofs.Ytpmldkhgdpchjaa
open Go.MW
def K0 : Nat := 1 + 7 * 256 ^ 16
end Go.Proofs.Ytpmldkhgdpchjaa
