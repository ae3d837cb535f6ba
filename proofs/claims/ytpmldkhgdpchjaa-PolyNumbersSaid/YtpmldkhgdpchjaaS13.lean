/- Walks of the Go functions, printed by a program of this claim. Conditions: none. -/
import Derived.Test.YtpmldkhgdpchjaaS12
import Derived.Test.YtpmldkhgdpchjaaM7
set_option linter.unusedVariables false
namespace Go.Proofs.Ytpmldkhgdpchjaa
open Go.MW
theorem i5 : (Try.prog.info? 5).map (·.size) = some 1 := by kernel_rfl
theorem i24 : (Try.prog.info? 24).map (·.size) = some 1 := by kernel_rfl
theorem cpy_lev (f : Nat → Nat) (n : Nat) (hf : ∀ i, i < n → f i < 256) (hn : n ≤ 17) : ∀ i, i < 17 → cpy (fun _ => 0) f 0 (min n 17) i = byt (lev f n) i := by
  intro i hi
  unfold cpy
  by_cases h : i < n
  · rw [if_pos (by omega), byt_lev f n hf i h, Nat.sub_zero]
  · rw [if_neg (by omega), byt_small _ _ (Nat.lt_of_lt_of_le (lev_lt f n hf) (Nat.pow_le_pow_right (by decide) (by omega)))]
def clf (f : Nat → Nat) (i : Nat) : Nat := if i % 4 = 3 then f i &&& 15 else if i % 4 = 0 ∧ 0 < i then f i &&& 252 else f i
def clk (f : Nat → Nat) (k : Nat) : Nat → Nat := fun i => if i < k then clf f i else f i
theorem clk_zero (f : Nat → Nat) : clk f 0 = f := by funext i; simp [clk]
theorem clk_at (f : Nat → Nat) (k : Nat) : clk f k k = f k := by simp [clk]
theorem clk_succ (f : Nat → Nat) (k : Nat) : upd (clk f k) k (clf f k) = clk f (k + 1) := by
  funext j
  unfold clk upd
  by_cases h : j = k
  · subst h; simp
  · by_cases h2 : j < k
    · simp [h, h2, show j < k + 1 by omega]
    · simp [h, h2, show ¬ j < k + 1 by omega]
theorem clk_same (f : Nat → Nat) (k : Nat) (h : clf f k = f k) : clk f k = clk f (k + 1) := by
  rw [← clk_succ, h]
  funext j
  unfold upd
  split
  · rename_i e; subst e; exact clk_at f j
  · rfl
theorem clf_lt (f : Nat → Nat) (i : Nat) (h : f i < 256) : clf f i < 256 := by
  unfold clf
  split
  · exact Nat.lt_of_le_of_lt Nat.and_le_left h
  · split
    · exact Nat.lt_of_le_of_lt Nat.and_le_left h
    · exact h

set_option maxRecDepth 100000 in
set_option maxHeartbeats 400000 in
theorem pof_small (n : Nat) (f : Nat → Nat) (hf : ∀ i, i < n → f i < 256) (hn : n ≤ 17) (va : Value) (w : World) (ha : Rd w .u8 n f va) :
    Calls Try.prog 57 [va].toArray w (PostV w (.tuple #[.agg (arr .u8 17 (byt (lev f n % Pp))), vn .i64 0])) := by
  have ha0 := ha
  obtain ⟨p1, c1, b1, o1, rfl, hp1, hx1⟩ := ha
  refine calls_of_WC Try.func57 rfl ?_
  simp only [Try.ntmps57, List.length_cons, List.length_nil, Nat.reduceAdd, Nat.reduceSub, List.replicate, List.cons_append, List.nil_append]
  refine WC_seq ?_
  refine WC_region ?_
  refine WL_rel rfl (rel_alloc z76 rfl) ?_
  rintro _ _ ⟨b0, rfl, rfl⟩
  dsimp only [put, List.set, ev, nth, List.nil_append, List.cons_append, md, Nat.reducePow, Nat.reduceAdd, Nat.reduceMul]
  refine WL_det rfl (det_assign) ?_
  dsimp only [put, List.set, ev, nth, List.nil_append, List.cons_append, md, Nat.reducePow, Nat.reduceAdd, Nat.reduceMul]
  refine WL_nil ?_
  refine WC_seq ?_
  refine WC_seq ?_
  refine WC_region ?_
  refine WL_det rfl (det_move) ?_
  dsimp only [put, List.set, ev, nth, List.nil_append, List.cons_append, md, Nat.reducePow, Nat.reduceAdd, Nat.reduceMul]
  refine WL_det rfl (det_len Try.underlying35 rfl) ?_
  dsimp only [put, List.set, ev, nth, List.nil_append, List.cons_append, md, Nat.reducePow, Nat.reduceAdd, Nat.reduceMul]
  refine WL_det rfl (det_gtr (q := 17) rfl rfl) ?_
  dsimp only [put, List.set, ev, nth, List.nil_append, List.cons_append, md, Nat.reducePow, Nat.reduceAdd, Nat.reduceMul]
  refine WL_nil ?_
  refine WC_cond rfl (fun hc0 => ?_) (fun hc0 => ?_)
  · have hc0 := of_decide_eq_true hc0
    exact absurd hc0 (by omega)
  · have hc0 := of_decide_eq_false hc0
    refine WC_skip ?_
    refine WC_seq ?_
    refine WC_region ?_
    refine WL_rel rfl (rel_alloc z76 rfl) ?_
    rintro _ _ ⟨b1, rfl, rfl⟩
    dsimp only [put, List.set, ev, nth, List.nil_append, List.cons_append, md, Nat.reducePow, Nat.reduceAdd, Nat.reduceMul]
    refine WL_nil ?_
    refine WC_seq ?_
    refine WC_region ?_
    refine WL_det rfl (det_sliceA Try.underlying76 Try.sizeOf5 rfl) ?_
    dsimp only [put, List.set, ev, nth, List.nil_append, List.cons_append, md, Nat.reducePow, Nat.reduceAdd, Nat.reduceMul]
    refine WL_det rfl (det_move) ?_
    dsimp only [put, List.set, ev, nth, List.nil_append, List.cons_append, md, Nat.reducePow, Nat.reduceAdd, Nat.reduceMul]
    refine WL_chg rfl (chg_copy 1 Try.underlying35 i5 rfl rfl (by omega) rfl (fun w hw => ha0.far hw)) ?_
    rintro _ _ ⟨rfl, rfl⟩
    dsimp only [put, List.set, ev, nth, List.nil_append, List.cons_append, md, Nat.reducePow, Nat.reduceAdd, Nat.reduceMul]
    rw [arr_congr (f := cpy (fun _ => 0) f 0 (min n 17)) (g := byt (lev f n)) (cpy_lev f n hf hn)]
    refine WL_nil ?_
    refine WC_seq ?_
    refine WC_region ?_
    refine WL_det rfl (det_loadWA 1 Try.underlying76 rfl i76 rfl rfl) ?_
    dsimp only [put, List.set, ev, nth, List.nil_append, List.cons_append, md, Nat.reducePow, Nat.reduceAdd, Nat.reduceMul]
    refine WL_rel rfl (Rel_call rfl Try.call75 (fun w hw => wide_spec _ w)) ?_
    rintro _ _ ⟨rfl, rfl⟩
    dsimp only [put, List.append_nil, List.set, ev, nth, List.nil_append, List.cons_append, md, Nat.reducePow, Nat.reduceAdd, Nat.reduceMul]
    refine WL_rel rfl (Rel_call rfl Try.call77 (fun w hw => redbyt _ (Nat.lt_of_lt_of_le (lev_lt f n hf) (Nat.pow_le_pow_right (by decide) hn)) w)) ?_
    rintro _ _ ⟨rfl, rfl⟩
    dsimp only [put, List.append_nil, List.set, ev, nth, List.nil_append, List.cons_append, md, Nat.reducePow, Nat.reduceAdd, Nat.reduceMul]
    refine WL_rel rfl (Rel_call rfl Try.call82 (fun w hw => plain_spec _ w)) ?_
    rintro _ _ ⟨rfl, rfl⟩
    dsimp only [put, List.append_nil, List.set, ev, nth, List.nil_append, List.cons_append, md, Nat.reducePow, Nat.reduceAdd, Nat.reduceMul]
    refine WL_chg rfl (chg_storeWA 0 Try.sizeOf76 rfl rfl rfl) ?_
    rintro _ _ rfl
    dsimp only [put, List.set, ev, nth, List.nil_append, List.cons_append, md, Nat.reducePow, Nat.reduceAdd, Nat.reduceMul]
    refine WL_det rfl (det_assign) ?_
    dsimp only [put, List.set, ev, nth, List.nil_append, List.cons_append, md, Nat.reducePow, Nat.reduceAdd, Nat.reduceMul]
    refine WL_nil ?_
    refine WC_ret ?_
    refine fin_cell_tmp 0 Try.results57 rfl rfl Try.underlying76 rfl i76 (arr_size _ _ _) rfl ([]) (List.nil_sublist _) ?_
    exact ⟨rfl, rfl⟩

set_option maxRecDepth 100000 in
set_option maxHeartbeats 400000 in
theorem pof_large (n : Nat) (p1 : Option Addr) (c1 : Nat) (hn : 17 < n) (w : World) :
    Calls Try.prog 57 [.slice p1 n c1].toArray w (PostV w (.tuple #[.agg (arr .u8 17 (byt 0)), vn .i64 3])) := by
  refine calls_of_WC Try.func57 rfl ?_
  simp only [Try.ntmps57, List.length_cons, List.length_nil, Nat.reduceAdd, Nat.reduceSub, List.replicate, List.cons_append, List.nil_append]
  refine WC_seq ?_
  refine WC_region ?_
  refine WL_rel rfl (rel_alloc z76 rfl) ?_
  rintro _ _ ⟨b0, rfl, rfl⟩
  dsimp only [put, List.set, ev, nth, List.nil_append, List.cons_append, md, Nat.reducePow, Nat.reduceAdd, Nat.reduceMul]
  refine WL_det rfl (det_assign) ?_
  dsimp only [put, List.set, ev, nth, List.nil_append, List.cons_append, md, Nat.reducePow, Nat.reduceAdd, Nat.reduceMul]
  refine WL_nil ?_
  refine WC_seq ?_
  refine WC_seq ?_
  refine WC_region ?_
  refine WL_det rfl (det_move) ?_
  dsimp only [put, List.set, ev, nth, List.nil_append, List.cons_append, md, Nat.reducePow, Nat.reduceAdd, Nat.reduceMul]
  refine WL_det rfl (det_len Try.underlying35 rfl) ?_
  dsimp only [put, List.set, ev, nth, List.nil_append, List.cons_append, md, Nat.reducePow, Nat.reduceAdd, Nat.reduceMul]
  refine WL_det rfl (det_gtr (q := 17) rfl rfl) ?_
  dsimp only [put, List.set, ev, nth, List.nil_append, List.cons_append, md, Nat.reducePow, Nat.reduceAdd, Nat.reduceMul]
  refine WL_nil ?_
  refine WC_cond rfl (fun hc0 => ?_) (fun hc0 => ?_)
  · have hc0 := of_decide_eq_true hc0
    refine WC_seq ?_
    refine WC_region ?_
    refine WL_det (v := .agg (arr .u8 17 (byt 0))) rfl (fun w _ => by kernel_rfl) ?_
    dsimp only [put, List.set, ev, nth, List.nil_append, List.cons_append, md, Nat.reducePow, Nat.reduceAdd, Nat.reduceMul]
    refine WL_chg rfl (chg_storeWA 0 Try.sizeOf76 rfl rfl rfl) ?_
    rintro _ _ rfl
    dsimp only [put, List.set, ev, nth, List.nil_append, List.cons_append, md, Nat.reducePow, Nat.reduceAdd, Nat.reduceMul]
    refine WL_det rfl (det_assign) ?_
    dsimp only [put, List.set, ev, nth, List.nil_append, List.cons_append, md, Nat.reducePow, Nat.reduceAdd, Nat.reduceMul]
    refine WL_nil ?_
    refine WC_ret ?_
    refine fin_cell_tmp 0 Try.results57 rfl rfl Try.underlying76 rfl i76 (arr_size _ _ _) rfl ([]) (List.nil_sublist _) ?_
    exact ⟨rfl, rfl⟩
  · have hc0 := of_decide_eq_false hc0
    exact absurd hc0 (by omega)

set_option maxRecDepth 100000 in
set_option maxHeartbeats 400000 in
theorem clamp_spec (f : Nat → Nat) (hf : ∀ i, i < 16 → f i < 256) (w : World) :
    Calls Try.prog 55 [.agg (arr .u8 16 f)].toArray w (PostV w (.agg (arr .u8 16 (clf f)))) := by
  refine calls_of_WC Try.func55 rfl ?_
  simp only [Try.ntmps55, List.length_cons, List.length_nil, Nat.reduceAdd, Nat.reduceSub, List.replicate, List.cons_append, List.nil_append]
  refine WC_seq ?_
  refine WC_region ?_
  refine WL_rel rfl (rel_box rfl rfl) ?_
  rintro _ _ ⟨b0, rfl, rfl⟩
  dsimp only [put, List.set, ev, nth, List.nil_append, List.cons_append, md, Nat.reducePow, Nat.reduceAdd, Nat.reduceMul]
  refine WL_rel rfl (rel_alloc z71 rfl) ?_
  rintro _ _ ⟨b1, rfl, rfl⟩
  dsimp only [put, List.set, ev, nth, List.nil_append, List.cons_append, md, Nat.reducePow, Nat.reduceAdd, Nat.reduceMul]
  refine WL_nil ?_
  refine WC_seq ?_
  refine WC_seq ?_
  refine WC_region ?_
  refine WL_det rfl (det_move) ?_
  dsimp only [put, List.set, ev, nth, List.nil_append, List.cons_append, md, Nat.reducePow, Nat.reduceAdd, Nat.reduceMul]
  refine WL_nil ?_
  refine WC_block ?_
  refine WC_loopS (ι := Nat) [5, 6, 3, 8, 9, 10, 7, 11, 12, 13, 14, 15, 17, 18, 19, 20, 21, 22, 23, 16, 24, 25, 26, 27, 28, 29] (fun k => [(4, vn .i64 (k))]) (fun k => [(0, (some b0, .cells (arr .u8 16 (clk f k)) 71 (0, 0)))]) (fun k => k ≤ 16) (fun k => 16 - k) 0 ?_ ?_ ?_ ?_
  · rfl
  · rw [clk_zero]
    try rfl
  · exact (by omega)
  · intro k g hI
    dsimp only [setAll, setG, setM, List.set]
    have hb := fun h => hf k h
    have hck := clk_at f k
    refine WC_seq ?_
    refine WC_region ?_
    refine WL_det rfl (det_lss (q := 16) rfl rfl) ?_
    dsimp only [put, List.set, ev, nth, List.nil_append, List.cons_append, md, Nat.reducePow, Nat.reduceAdd, Nat.reduceMul]
    refine WL_nil ?_
    refine WC_seq ?_
    refine WC_cond rfl (fun hc0 => ?_) (fun hc0 => ?_)
    · have hc0 := of_decide_eq_true hc0
      have hb := hf k (by omega)
      refine WC_skip ?_
      refine WC_seq ?_
      refine WC_block ?_
      refine WC_seq ?_
      refine WC_region ?_
      refine WL_det rfl (det_move) ?_
      dsimp only [put, List.set, ev, nth, List.nil_append, List.cons_append, md, Nat.reducePow, Nat.reduceAdd, Nat.reduceMul]
      refine WL_det rfl (det_assign) ?_
      dsimp only [put, List.set, ev, nth, List.nil_append, List.cons_append, md, Nat.reducePow, Nat.reduceAdd, Nat.reduceMul]
      refine WL_nil ?_
      refine WC_block ?_
      refine WC_seq ?_
      refine WC_region ?_
      refine WL_det rfl (det_move) ?_
      dsimp only [put, List.set, ev, nth, List.nil_append, List.cons_append, md, Nat.reducePow, Nat.reduceAdd, Nat.reduceMul]
      refine WL_det rfl (det_remi (q := 4) rfl rfl (by omega)) ?_
      dsimp only [put, List.set, ev, nth, List.nil_append, List.cons_append, md, Nat.reducePow, Nat.reduceAdd, Nat.reduceMul]
      refine WL_det rfl (det_eql (q := 3) rfl rfl) ?_
      dsimp only [put, List.set, ev, nth, List.nil_append, List.cons_append, md, Nat.reducePow, Nat.reduceAdd, Nat.reduceMul]
      refine WL_det rfl (det_assign) ?_
      dsimp only [put, List.set, ev, nth, List.nil_append, List.cons_append, md, Nat.reducePow, Nat.reduceAdd, Nat.reduceMul]
      refine WL_nil ?_
      refine WC_cond rfl (fun hc1 => ?_) (fun hc1 => ?_)
      · have hc1 := of_decide_eq_true hc1
        refine WC_region ?_
        refine WL_det rfl (det_move) ?_
        dsimp only [put, List.set, ev, nth, List.nil_append, List.cons_append, md, Nat.reducePow, Nat.reduceAdd, Nat.reduceMul]
        refine WL_det rfl (det_idxA Try.underlying71 Try.sizeOf5 rfl rfl (rfl) (by omega)) ?_
        dsimp only [put, List.set, ev, nth, List.nil_append, List.cons_append, md, Nat.reducePow, Nat.reduceAdd, Nat.reduceMul]
        refine WL_det rfl (det_loadA 0 Try.isAgg5 rfl rfl (by omega)) ?_
        dsimp only [put, List.set, ev, nth, List.nil_append, List.cons_append, md, Nat.reducePow, Nat.reduceAdd, Nat.reduceMul]
        rw [clk_at]
        refine WL_det rfl (det_and (q := 15) rfl rfl rfl (by simp only [md]; omega) (by decide)) ?_
        dsimp only [put, List.set, ev, nth, List.nil_append, List.cons_append, md, Nat.reducePow, Nat.reduceAdd, Nat.reduceMul]
        refine WL_det rfl (det_idxA Try.underlying71 Try.sizeOf5 rfl rfl (rfl) (by omega)) ?_
        dsimp only [put, List.set, ev, nth, List.nil_append, List.cons_append, md, Nat.reducePow, Nat.reduceAdd, Nat.reduceMul]
        refine WL_chg rfl (chg_storeA 0 Try.sizeOf5 rfl rfl (by omega) rfl) ?_
        rintro _ _ rfl
        dsimp only [put, List.set, ev, nth, List.nil_append, List.cons_append, md, Nat.reducePow, Nat.reduceAdd, Nat.reduceMul]
        refine WL_nil ?_
        refine WC_region ?_
        refine WL_det rfl (det_addi (q := 1) rfl rfl (by omega)) ?_
        dsimp only [put, List.set, ev, nth, List.nil_append, List.cons_append, md, Nat.reducePow, Nat.reduceAdd, Nat.reduceMul]
        refine WL_det rfl (det_move) ?_
        dsimp only [put, List.set, ev, nth, List.nil_append, List.cons_append, md, Nat.reducePow, Nat.reduceAdd, Nat.reduceMul]
        refine WL_nil ?_
        refine ⟨k + 1, ?_, ?_, ?_, ?_⟩
        · rfl
        · first | rw [show f k &&& 15 = clf f k by simp [clf, hc1], clk_succ] | rw [show f k &&& 252 = clf f k by unfold clf; rw [if_neg hc1, if_pos ⟨hk4, hc2⟩], clk_succ] | rw [clk_same f k (by unfold clf; rw [if_neg hc1, if_neg (by omega)])]
          try rfl
        · omega
        · omega
      · have hc1 := of_decide_eq_false hc1
        refine WC_seq ?_
        by_cases hk4 : k % 4 = 0
        · refine WC_region ?_
          refine WL_det rfl (det_move) ?_
          dsimp only [put, List.set, ev, nth, List.nil_append, List.cons_append, md, Nat.reducePow, Nat.reduceAdd, Nat.reduceMul]
          refine WL_det rfl (det_remi (q := 4) rfl rfl (by omega)) ?_
          dsimp only [put, List.set, ev, nth, List.nil_append, List.cons_append, md, Nat.reducePow, Nat.reduceAdd, Nat.reduceMul]
          refine WL_det rfl (Det.bv true (det_eql (q := 0) rfl rfl) (decide_eq_true hk4)) ?_
          dsimp only [put, List.set, ev, nth, List.nil_append, List.cons_append, md, Nat.reducePow, Nat.reduceAdd, Nat.reduceMul]
          refine WL_det rfl (det_move) ?_
          dsimp only [put, List.set, ev, nth, List.nil_append, List.cons_append, md, Nat.reducePow, Nat.reduceAdd, Nat.reduceMul]
          refine WL_detG rfl (det_move) ?_
          dsimp only [put, List.set, ev, nth, List.nil_append, List.cons_append, md, Nat.reducePow, Nat.reduceAdd, Nat.reduceMul]
          refine WL_detG rfl (det_gtr (q := 0) rfl rfl) ?_
          dsimp only [put, List.set, ev, nth, List.nil_append, List.cons_append, md, Nat.reducePow, Nat.reduceAdd, Nat.reduceMul]
          refine WL_det rfl (det_pick_true rfl) ?_
          dsimp only [put, List.set, ev, nth, List.nil_append, List.cons_append, md, Nat.reducePow, Nat.reduceAdd, Nat.reduceMul]
          refine WL_det rfl (det_assign) ?_
          dsimp only [put, List.set, ev, nth, List.nil_append, List.cons_append, md, Nat.reducePow, Nat.reduceAdd, Nat.reduceMul]
          refine WL_nil ?_
          refine WC_cond rfl (fun hc2 => ?_) (fun hc2 => ?_)
          · have hc2 := of_decide_eq_true hc2
            refine WC_region ?_
            refine WL_det rfl (det_move) ?_
            dsimp only [put, List.set, ev, nth, List.nil_append, List.cons_append, md, Nat.reducePow, Nat.reduceAdd, Nat.reduceMul]
            refine WL_det rfl (det_idxA Try.underlying71 Try.sizeOf5 rfl rfl (rfl) (by omega)) ?_
            dsimp only [put, List.set, ev, nth, List.nil_append, List.cons_append, md, Nat.reducePow, Nat.reduceAdd, Nat.reduceMul]
            refine WL_det rfl (det_loadA 0 Try.isAgg5 rfl rfl (by omega)) ?_
            dsimp only [put, List.set, ev, nth, List.nil_append, List.cons_append, md, Nat.reducePow, Nat.reduceAdd, Nat.reduceMul]
            rw [clk_at]
            refine WL_det rfl (det_and (q := 252) rfl rfl rfl (by simp only [md]; omega) (by decide)) ?_
            dsimp only [put, List.set, ev, nth, List.nil_append, List.cons_append, md, Nat.reducePow, Nat.reduceAdd, Nat.reduceMul]
            refine WL_det rfl (det_idxA Try.underlying71 Try.sizeOf5 rfl rfl (rfl) (by omega)) ?_
            dsimp only [put, List.set, ev, nth, List.nil_append, List.cons_append, md, Nat.reducePow, Nat.reduceAdd, Nat.reduceMul]
            refine WL_chg rfl (chg_storeA 0 Try.sizeOf5 rfl rfl (by omega) rfl) ?_
            rintro _ _ rfl
            dsimp only [put, List.set, ev, nth, List.nil_append, List.cons_append, md, Nat.reducePow, Nat.reduceAdd, Nat.reduceMul]
            refine WL_nil ?_
            refine WC_region ?_
            refine WL_det rfl (det_addi (q := 1) rfl rfl (by omega)) ?_
            dsimp only [put, List.set, ev, nth, List.nil_append, List.cons_append, md, Nat.reducePow, Nat.reduceAdd, Nat.reduceMul]
            refine WL_det rfl (det_move) ?_
            dsimp only [put, List.set, ev, nth, List.nil_append, List.cons_append, md, Nat.reducePow, Nat.reduceAdd, Nat.reduceMul]
            refine WL_nil ?_
            refine ⟨k + 1, ?_, ?_, ?_, ?_⟩
            · rfl
            · first | rw [show f k &&& 15 = clf f k by simp [clf, hc1], clk_succ] | rw [show f k &&& 252 = clf f k by unfold clf; rw [if_neg hc1, if_pos ⟨hk4, hc2⟩], clk_succ] | rw [clk_same f k (by unfold clf; rw [if_neg hc1, if_neg (by omega)])]
              try rfl
            · omega
            · omega
          · have hc2 := of_decide_eq_false hc2
            refine WC_skip ?_
            refine WC_region ?_
            refine WL_det rfl (det_addi (q := 1) rfl rfl (by omega)) ?_
            dsimp only [put, List.set, ev, nth, List.nil_append, List.cons_append, md, Nat.reducePow, Nat.reduceAdd, Nat.reduceMul]
            refine WL_det rfl (det_move) ?_
            dsimp only [put, List.set, ev, nth, List.nil_append, List.cons_append, md, Nat.reducePow, Nat.reduceAdd, Nat.reduceMul]
            refine WL_nil ?_
            refine ⟨k + 1, ?_, ?_, ?_, ?_⟩
            · rfl
            · first | rw [show f k &&& 15 = clf f k by simp [clf, hc1], clk_succ] | rw [show f k &&& 252 = clf f k by unfold clf; rw [if_neg hc1, if_pos ⟨hk4, hc2⟩], clk_succ] | rw [clk_same f k (by unfold clf; rw [if_neg hc1, if_neg (by omega)])]
              try rfl
            · omega
            · omega
        · refine WC_region ?_
          refine WL_det rfl (det_move) ?_
          dsimp only [put, List.set, ev, nth, List.nil_append, List.cons_append, md, Nat.reducePow, Nat.reduceAdd, Nat.reduceMul]
          refine WL_det rfl (det_remi (q := 4) rfl rfl (by omega)) ?_
          dsimp only [put, List.set, ev, nth, List.nil_append, List.cons_append, md, Nat.reducePow, Nat.reduceAdd, Nat.reduceMul]
          refine WL_det rfl (Det.bv false (det_eql (q := 0) rfl rfl) (decide_eq_false hk4)) ?_
          dsimp only [put, List.set, ev, nth, List.nil_append, List.cons_append, md, Nat.reducePow, Nat.reduceAdd, Nat.reduceMul]
          refine WL_det rfl (det_move) ?_
          dsimp only [put, List.set, ev, nth, List.nil_append, List.cons_append, md, Nat.reducePow, Nat.reduceAdd, Nat.reduceMul]
          refine WL_skipG rfl ?_
          dsimp only [put, List.set, ev, nth, List.nil_append, List.cons_append, md, Nat.reducePow, Nat.reduceAdd, Nat.reduceMul]
          refine WL_skipG rfl ?_
          dsimp only [put, List.set, ev, nth, List.nil_append, List.cons_append, md, Nat.reducePow, Nat.reduceAdd, Nat.reduceMul]
          refine WL_det rfl (det_pick_false rfl) ?_
          dsimp only [put, List.set, ev, nth, List.nil_append, List.cons_append, md, Nat.reducePow, Nat.reduceAdd, Nat.reduceMul]
          refine WL_det rfl (det_assign) ?_
          dsimp only [put, List.set, ev, nth, List.nil_append, List.cons_append, md, Nat.reducePow, Nat.reduceAdd, Nat.reduceMul]
          refine WL_nil ?_
          refine WC_cond_false rfl ?_
          refine WC_skip ?_
          refine WC_region ?_
          refine WL_det rfl (det_addi (q := 1) rfl rfl (by omega)) ?_
          dsimp only [put, List.set, ev, nth, List.nil_append, List.cons_append, md, Nat.reducePow, Nat.reduceAdd, Nat.reduceMul]
          refine WL_det rfl (det_move) ?_
          dsimp only [put, List.set, ev, nth, List.nil_append, List.cons_append, md, Nat.reducePow, Nat.reduceAdd, Nat.reduceMul]
          refine WL_nil ?_
          refine ⟨k + 1, ?_, ?_, ?_, ?_⟩
          · rfl
          · first | rw [show f k &&& 15 = clf f k by simp [clf, hc1], clk_succ] | rw [show f k &&& 252 = clf f k by unfold clf; rw [if_neg hc1, if_pos ⟨hk4, hc2⟩], clk_succ] | rw [clk_same f k (by unfold clf; rw [if_neg hc1, if_neg (by omega)])]
            try rfl
          · omega
          · omega
    · have hc0 := of_decide_eq_false hc0
      refine WC_exit ?_
      refine inB_same ?_
      refine WC_seq ?_
      refine WC_region ?_
      refine WL_det rfl (det_loadWA 0 Try.underlying71 rfl i71 rfl rfl) ?_
      dsimp only [put, List.set, ev, nth, List.nil_append, List.cons_append, md, Nat.reducePow, Nat.reduceAdd, Nat.reduceMul]
      refine WL_chg rfl (chg_storeWA 1 Try.sizeOf71 rfl rfl rfl) ?_
      rintro _ _ rfl
      dsimp only [put, List.set, ev, nth, List.nil_append, List.cons_append, md, Nat.reducePow, Nat.reduceAdd, Nat.reduceMul]
      refine WL_nil ?_
      refine WC_ret ?_
      obtain rfl : k = 16 := by omega
      rw [arr_congr (f := clk f 16) (g := clf f) (fun i hi => if_pos hi)]
      refine fin_cell 1 Try.results55 rfl rfl Try.underlying71 rfl i71 (arr_size _ _ _) ([]) (List.nil_sublist _) ?_
      exact ⟨rfl, rfl⟩

end Go.Proofs.Ytpmldkhgdpchjaa
