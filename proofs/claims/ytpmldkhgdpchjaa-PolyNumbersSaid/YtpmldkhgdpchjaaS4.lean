/- Walks of the Go functions, printed by a program of this claim. Conditions: none. -/
import Derived.Test.YtpmldkhgdpchjaaS3
set_option linter.unusedVariables false
namespace Go.Proofs.Ytpmldkhgdpchjaa
open Go.MW
theorem zc109 : Try.zeroCells109 = arr .u8 68 fun _ => 0 := by kernel_rfl
theorem z109 (w : World) : (zeroValue 109).run Try.prog w = .ok (.agg (arr .u8 68 fun _ => 0)) w := by rw [Try.zeroValue109, zc109]

set_option maxRecDepth 100000 in
set_option maxHeartbeats 1000000 in
theorem mul_spec (A N : Nat) (hA : A < D32) (hN : N < D32) (w : World) :
    Calls Try.prog 37 [.agg (arr .u8 32 (byt A)), .agg (arr .u8 32 (byt N))].toArray w (PostV w (.agg (arr .u8 32 (byt ((A * N) % Qn))))) := by
  have hV : psum (mulf (dig A) (dig N) 17) 34 = A * N := mul_val A N (Nat.lt_of_lt_of_le hA (by decide)) (Nat.lt_of_lt_of_le hN (by decide))
  refine calls_of_WC Try.func37 rfl ?_
  simp only [Try.ntmps37, List.length_cons, List.length_nil, Nat.reduceAdd, Nat.reduceSub, List.replicate, List.cons_append, List.nil_append]
  refine WC_seq ?_
  refine WC_region ?_
  refine WL_rel rfl (rel_box rfl rfl) ?_
  rintro _ _ ⟨b0, rfl, rfl⟩
  dsimp only [put, List.set, ev, nth, List.nil_append, List.cons_append, md, Nat.reducePow, Nat.reduceAdd, Nat.reduceMul]
  refine WL_rel rfl (rel_box rfl rfl) ?_
  rintro _ _ ⟨b1, rfl, rfl⟩
  dsimp only [put, List.set, ev, nth, List.nil_append, List.cons_append, md, Nat.reducePow, Nat.reduceAdd, Nat.reduceMul]
  refine WL_rel rfl (rel_alloc z22 rfl) ?_
  rintro _ _ ⟨b2, rfl, rfl⟩
  dsimp only [put, List.set, ev, nth, List.nil_append, List.cons_append, md, Nat.reducePow, Nat.reduceAdd, Nat.reduceMul]
  refine WL_nil ?_
  refine WC_seq ?_
  refine WC_draw [[], [0], [], [0, 1, 2], [], [], [0, 1, 2, 3, 4, 5], [0, 1, 2, 3, 4, 5, 6]] [6, 7] 70 [] (List.nil_sublist _) mixed rfl (by decide) ?_
  refine RW.det [] rfl rfl rfl rfl (fun _ => rfl) (fun V hV => Det.rel (det_loadWA 0 Try.underlying22 rfl i22 rfl rfl)) (fun _ _ _ => rfl) ?_
  dsimp only [put, List.set, ev, nth, List.nil_append, List.cons_append, md, Nat.reducePow, Nat.reduceAdd, Nat.reduceMul]
  refine RW.det [] rfl rfl rfl rfl (fun _ => rfl) (fun V hV => Rel_call rfl Try.call70 (fun w hw => of_spec A hA w)) (fun _ _ _ => rfl) ?_
  dsimp only [put, List.set, ev, nth, List.nil_append, List.cons_append, md, Nat.reducePow, Nat.reduceAdd, Nat.reduceMul]
  refine RW.det [] rfl rfl rfl rfl (fun _ => rfl) (fun V hV => Det.rel (det_loadWA 1 Try.underlying22 rfl i22 rfl rfl)) (fun _ _ _ => rfl) ?_
  dsimp only [put, List.set, ev, nth, List.nil_append, List.cons_append, md, Nat.reducePow, Nat.reduceAdd, Nat.reduceMul]
  refine RW.det [] rfl rfl rfl rfl (fun _ => rfl) (fun V hV => Rel_call rfl Try.call70 (fun w hw => of_spec N hN w)) (fun _ _ _ => rfl) ?_
  dsimp only [put, List.set, ev, nth, List.nil_append, List.cons_append, md, Nat.reducePow, Nat.reduceAdd, Nat.reduceMul]
  refine RW.rel' (R0 := fun _ => IsNew (arr .u32 17 fun _ => 0) 101) [] rfl rfl rfl rfl (fun _ => rfl) rfl (fun V hV => draw_alloc z101 rfl) (fun _ _ _ _ _ h => h) ?_
  dsimp only [put, List.set, ev, nth, List.nil_append, List.cons_append, md, Nat.reducePow, Nat.reduceAdd, Nat.reduceMul]
  refine RW.rel' (R0 := fun _ => IsNew (arr .u32 17 fun _ => 0) 101) [] rfl rfl rfl rfl (fun _ => rfl) rfl (fun V hV => draw_alloc z101 rfl) (fun _ _ _ _ _ h => h) ?_
  dsimp only [put, List.set, ev, nth, List.nil_append, List.cons_append, md, Nat.reducePow, Nat.reduceAdd, Nat.reduceMul]
  refine RW.tail' (B := fun V => _ ++ flat [4, 5] V) rfl rfl rfl rfl (fun _ => rfl) (fun V hV => chg_storeWA 3 Try.sizeOf101 (IsNew.ptr (hV 4 (by decide) _ rfl)) (by have e4 : (V 4).2 = _ := IsNew.mem (hV 4 (by decide) _ rfl); have e5 : (V 5).2 = _ := IsNew.mem (hV 5 (by decide) _ rfl); simp only [flat_cons, flat_nil, e4, e5]; rfl) rfl) (fun V V' hV _ _ h => by simpa only [flat_cons, flat_nil, hV 4 (by decide), hV 5 (by decide)] using h) (fun _ _ _ _ _ => List.nil_sublist _) ?_
  dsimp only [put, List.set, ev, nth, List.nil_append, List.cons_append, md, Nat.reducePow, Nat.reduceAdd, Nat.reduceMul]
  refine RW.tail' (B := fun V => (V 6).2) rfl rfl rfl rfl (fun _ => rfl) (fun V hV => by have hp : (V 6).2 = _ := hV 6 (by decide) _ rfl; rw [hp]; exact chg_storeWA 4 Try.sizeOf101 (IsNew.ptr (hV 5 (by decide) _ rfl)) (by have e4 : (V 4).2 = _ := IsNew.mem (hV 4 (by decide) _ rfl); have e5 : (V 5).2 = _ := IsNew.mem (hV 5 (by decide) _ rfl); simp only [flat_cons, flat_nil, e4, e5]; rfl) rfl) (fun V V' hV _ _ h => by simpa only [flat_cons, flat_nil, hV 4 (by decide), hV 5 (by decide), hV 6 (by decide)] using h) (fun _ _ _ _ _ => List.nil_sublist _) ?_
  dsimp only [put, List.set, ev, nth, List.nil_append, List.cons_append, md, Nat.reducePow, Nat.reduceAdd, Nat.reduceMul]
  refine RW.done (fun V => (V 7).2) rfl rfl (fun _ => rfl) (fun V hV => ?_)
  obtain ⟨b3, hp3, hq3⟩ : IsNew _ _ (V 4).1 (V 4).2 := hV 4 _ rfl
  obtain ⟨b4, hp4, hq4⟩ : IsNew _ _ (V 5).1 (V 5).2 := hV 5 _ rfl
  have ht7 : (V 7).2 = _ := hV 7 _ rfl
  simp only [hp3, hq3, hp4, hq4, ht7, flat_cons, flat_nil]
  try dsimp only [put, blk, flat_nil, List.append_nil, List.append, List.eraseIdx, List.set, ev, nth, List.nil_append, List.cons_append, md, Nat.reducePow, Nat.reduceAdd, Nat.reduceMul]
  clear hV hp3 hq3 hp4 hq4 ht7
  refine WC_seq ?_
  refine WC_region ?_
  refine WL_rel rfl (rel_alloc z108 rfl) ?_
  rintro _ _ ⟨b5, rfl, rfl⟩
  dsimp only [put, List.set, ev, nth, List.nil_append, List.cons_append, md, Nat.reducePow, Nat.reduceAdd, Nat.reduceMul]
  refine WL_nil ?_
  refine WC_seq ?_
  refine WC_seq ?_
  refine WC_region ?_
  refine WL_det rfl (det_loadWA 3 Try.underlying101 rfl i101 rfl rfl) ?_
  dsimp only [put, List.set, ev, nth, List.nil_append, List.cons_append, md, Nat.reducePow, Nat.reduceAdd, Nat.reduceMul]
  refine WL_det rfl (det_move) ?_
  dsimp only [put, List.set, ev, nth, List.nil_append, List.cons_append, md, Nat.reducePow, Nat.reduceAdd, Nat.reduceMul]
  refine WL_nil ?_
  refine WC_block ?_
  refine WC_loopS (ι := Nat) [22, 23, 24, 8, 9, 25, 26, 27, 28, 29, 10, 11, 30, 31, 32, 33, 34, 35, 36, 37, 38, 39, 40, 41, 42, 43] (fun i => [(21, vn .i64 (i))]) (fun i => [(5, (some b5, .cells (arr .u64 34 (mulf (dig A) (dig N) i)) 108 (0, 0)))]) (fun i => i ≤ 17) (fun i => 17 - i) 0 ?_ ?_ ?_ ?_
  · rfl
  · rfl
  · exact (by omega)
  · intro i g hI
    dsimp only [setAll, setG, setM, List.set]
    have hm := fun p => mulf_le (dig A) (dig N) i p (dig_lt A) (dig_lt N)
    refine WC_seq ?_
    refine WC_region ?_
    refine WL_det rfl (det_lss (q := 17) rfl rfl) ?_
    dsimp only [put, List.set, ev, nth, List.nil_append, List.cons_append, md, Nat.reducePow, Nat.reduceAdd, Nat.reduceMul]
    refine WL_nil ?_
    refine WC_seq ?_
    refine WC_cond rfl (fun hc0 => ?_) (fun hc0 => ?_)
    · have hc0 := of_decide_eq_true hc0
      refine WC_skip ?_
      refine WC_seq ?_
      refine WC_block ?_
      refine WC_seq ?_
      refine WC_region ?_
      refine WL_det rfl (det_move) ?_
      dsimp only [put, List.set, ev, nth, List.nil_append, List.cons_append, md, Nat.reducePow, Nat.reduceAdd, Nat.reduceMul]
      refine WL_det rfl (det_index Try.underlying101 Try.sizeOf24 Try.isAgg24 rfl rfl rfl (by omega)) ?_
      dsimp only [put, List.set, ev, nth, List.nil_append, List.cons_append, md, Nat.reducePow, Nat.reduceAdd, Nat.reduceMul]
      refine WL_det rfl (det_assign) ?_
      dsimp only [put, List.set, ev, nth, List.nil_append, List.cons_append, md, Nat.reducePow, Nat.reduceAdd, Nat.reduceMul]
      refine WL_det rfl (det_assign) ?_
      dsimp only [put, List.set, ev, nth, List.nil_append, List.cons_append, md, Nat.reducePow, Nat.reduceAdd, Nat.reduceMul]
      refine WL_nil ?_
      refine WC_seq ?_
      refine WC_region ?_
      refine WL_det rfl (det_loadWA 4 Try.underlying101 rfl i101 rfl rfl) ?_
      dsimp only [put, List.set, ev, nth, List.nil_append, List.cons_append, md, Nat.reducePow, Nat.reduceAdd, Nat.reduceMul]
      refine WL_det rfl (det_move) ?_
      dsimp only [put, List.set, ev, nth, List.nil_append, List.cons_append, md, Nat.reducePow, Nat.reduceAdd, Nat.reduceMul]
      refine WL_nil ?_
      refine WC_block ?_
      refine WC_loopS (ι := Nat) [27, 28, 29, 10, 11, 30, 31, 32, 33, 34, 35, 36, 37, 38, 39, 40, 41, 42] (fun j => [(26, vn .i64 (j))]) (fun j => [(5, (some b5, .cells (arr .u64 34 (fun p => mulf (dig A) (dig N) i p + rowp (dig A i) (dig N) i j p)) 108 (0, 0)))]) (fun j => j ≤ 17) (fun j => 17 - j) 0 ?_ ?_ ?_ ?_
      · rfl
      · simp only [rowp_zero, Nat.add_zero]; rfl
      · exact (by omega)
      · intro j g hI
        dsimp only [setAll, setG, setM, List.set]
        have hr := rowp_le (dig A i) (dig N) i j (i + j) (dig_lt A i) (dig_lt N)
        have hm1 := hm (i + j)
        have hd1 := dig_lt A i
        have hd2 := dig_lt N j
        have hpr : dig A i * dig N j ≤ 4294836225 := (by have := Nat.mul_le_mul (show dig A i ≤ 65535 by omega) (show dig N j ≤ 65535 by omega); omega)
        refine WC_seq ?_
        refine WC_region ?_
        refine WL_det rfl (det_lss (q := 17) rfl rfl) ?_
        dsimp only [put, List.set, ev, nth, List.nil_append, List.cons_append, md, Nat.reducePow, Nat.reduceAdd, Nat.reduceMul]
        refine WL_nil ?_
        refine WC_seq ?_
        refine WC_cond rfl (fun hc1 => ?_) (fun hc1 => ?_)
        · have hc1 := of_decide_eq_true hc1
          refine WC_skip ?_
          refine WC_seq ?_
          refine WC_block ?_
          refine WC_seq ?_
          refine WC_region ?_
          refine WL_det rfl (det_move) ?_
          dsimp only [put, List.set, ev, nth, List.nil_append, List.cons_append, md, Nat.reducePow, Nat.reduceAdd, Nat.reduceMul]
          refine WL_det rfl (det_index Try.underlying101 Try.sizeOf24 Try.isAgg24 rfl rfl rfl (by omega)) ?_
          dsimp only [put, List.set, ev, nth, List.nil_append, List.cons_append, md, Nat.reducePow, Nat.reduceAdd, Nat.reduceMul]
          refine WL_det rfl (det_assign) ?_
          dsimp only [put, List.set, ev, nth, List.nil_append, List.cons_append, md, Nat.reducePow, Nat.reduceAdd, Nat.reduceMul]
          refine WL_det rfl (det_assign) ?_
          dsimp only [put, List.set, ev, nth, List.nil_append, List.cons_append, md, Nat.reducePow, Nat.reduceAdd, Nat.reduceMul]
          refine WL_nil ?_
          refine WC_region ?_
          refine WL_det rfl (det_move) ?_
          dsimp only [put, List.set, ev, nth, List.nil_append, List.cons_append, md, Nat.reducePow, Nat.reduceAdd, Nat.reduceMul]
          refine WL_det rfl (det_move) ?_
          dsimp only [put, List.set, ev, nth, List.nil_append, List.cons_append, md, Nat.reducePow, Nat.reduceAdd, Nat.reduceMul]
          refine WL_det rfl (det_addi rfl rfl (by omega)) ?_
          dsimp only [put, List.set, ev, nth, List.nil_append, List.cons_append, md, Nat.reducePow, Nat.reduceAdd, Nat.reduceMul]
          refine WL_det rfl (det_idxA Try.underlying108 Try.sizeOf99 rfl rfl (rfl) (by omega)) ?_
          dsimp only [put, List.set, ev, nth, List.nil_append, List.cons_append, md, Nat.reducePow, Nat.reduceAdd, Nat.reduceMul]
          refine WL_det rfl (det_loadA 5 Try.isAgg99 rfl rfl (by omega)) ?_
          dsimp only [put, List.set, ev, nth, List.nil_append, List.cons_append, md, Nat.reducePow, Nat.reduceAdd, Nat.reduceMul]
          refine WL_det rfl (det_move) ?_
          dsimp only [put, List.set, ev, nth, List.nil_append, List.cons_append, md, Nat.reducePow, Nat.reduceAdd, Nat.reduceMul]
          refine WL_det rfl (det_conv' Try.underlying99 Try.underlying24 rfl rfl (by simp only [md]; first | omega | exact Nat.or_lt_two_pow (n := 32) (by omega) (by omega) | exact Nat.lt_of_le_of_lt Nat.and_le_left (by omega) | exact Nat.lt_of_le_of_lt Nat.and_le_right (by omega) | exact Nat.xor_lt_two_pow (n := 32) (by omega) (by omega))) ?_
          dsimp only [put, List.set, ev, nth, List.nil_append, List.cons_append, md, Nat.reducePow, Nat.reduceAdd, Nat.reduceMul]
          refine WL_det rfl (det_move) ?_
          dsimp only [put, List.set, ev, nth, List.nil_append, List.cons_append, md, Nat.reducePow, Nat.reduceAdd, Nat.reduceMul]
          refine WL_det rfl (det_conv' Try.underlying99 Try.underlying24 rfl rfl (by simp only [md]; first | omega | exact Nat.or_lt_two_pow (n := 32) (by omega) (by omega) | exact Nat.lt_of_le_of_lt Nat.and_le_left (by omega) | exact Nat.lt_of_le_of_lt Nat.and_le_right (by omega) | exact Nat.xor_lt_two_pow (n := 32) (by omega) (by omega))) ?_
          dsimp only [put, List.set, ev, nth, List.nil_append, List.cons_append, md, Nat.reducePow, Nat.reduceAdd, Nat.reduceMul]
          refine WL_det rfl (det_mul' rfl rfl rfl (by simp only [md]; omega)) ?_
          dsimp only [put, List.set, ev, nth, List.nil_append, List.cons_append, md, Nat.reducePow, Nat.reduceAdd, Nat.reduceMul]
          refine WL_det rfl (det_add' rfl rfl rfl (by simp only [md]; omega)) ?_
          dsimp only [put, List.set, ev, nth, List.nil_append, List.cons_append, md, Nat.reducePow, Nat.reduceAdd, Nat.reduceMul]
          refine WL_det rfl (det_idxA Try.underlying108 Try.sizeOf99 rfl rfl (rfl) (by omega)) ?_
          dsimp only [put, List.set, ev, nth, List.nil_append, List.cons_append, md, Nat.reducePow, Nat.reduceAdd, Nat.reduceMul]
          refine WL_chg rfl (chg_storeA 5 Try.sizeOf99 rfl rfl (by omega) rfl) ?_
          rintro _ _ rfl
          dsimp only [put, List.set, ev, nth, List.nil_append, List.cons_append, md, Nat.reducePow, Nat.reduceAdd, Nat.reduceMul]
          refine WL_nil ?_
          refine WC_region ?_
          refine WL_det rfl (det_addi (q := 1) rfl rfl (by omega)) ?_
          dsimp only [put, List.set, ev, nth, List.nil_append, List.cons_append, md, Nat.reducePow, Nat.reduceAdd, Nat.reduceMul]
          refine WL_det rfl (det_move) ?_
          dsimp only [put, List.set, ev, nth, List.nil_append, List.cons_append, md, Nat.reducePow, Nat.reduceAdd, Nat.reduceMul]
          refine WL_nil ?_
          refine ⟨j + 1, ?_, ?_, ?_, ?_⟩
          · rfl
          · rw [row_step]
          · omega
          · omega
        · have hc1 := of_decide_eq_false hc1
          obtain rfl : j = 17 := by omega
          refine WC_exit ?_
          refine inB_same ?_
          refine WC_region ?_
          refine WL_det rfl (det_addi (q := 1) rfl rfl (by omega)) ?_
          dsimp only [put, List.set, ev, nth, List.nil_append, List.cons_append, md, Nat.reducePow, Nat.reduceAdd, Nat.reduceMul]
          refine WL_det rfl (det_move) ?_
          dsimp only [put, List.set, ev, nth, List.nil_append, List.cons_append, md, Nat.reducePow, Nat.reduceAdd, Nat.reduceMul]
          refine WL_nil ?_
          refine ⟨i + 1, ?_, ?_, ?_, ?_⟩
          · rfl
          · rfl
          · omega
          · omega
    · have hc0 := of_decide_eq_false hc0
      obtain rfl : i = 17 := by omega
      refine WC_exit ?_
      refine inB_same ?_
      refine WC_seq ?_
      refine WC_region ?_
      refine WL_rel rfl (rel_alloc z109 rfl) ?_
      rintro _ _ ⟨b6, rfl, rfl⟩
      dsimp only [put, List.set, ev, nth, List.nil_append, List.cons_append, md, Nat.reducePow, Nat.reduceAdd, Nat.reduceMul]
      refine WL_nil ?_
      refine WC_seq ?_
      refine WC_region ?_
      refine WL_det rfl (det_assign) ?_
      dsimp only [put, List.set, ev, nth, List.nil_append, List.cons_append, md, Nat.reducePow, Nat.reduceAdd, Nat.reduceMul]
      refine WL_nil ?_
      refine WC_seq ?_
      refine WC_seq ?_
      refine WC_region ?_
      refine WL_det rfl (det_loadWA 5 Try.underlying108 rfl i108 rfl rfl) ?_
      dsimp only [put, List.set, ev, nth, List.nil_append, List.cons_append, md, Nat.reducePow, Nat.reduceAdd, Nat.reduceMul]
      refine WL_det rfl (det_move) ?_
      dsimp only [put, List.set, ev, nth, List.nil_append, List.cons_append, md, Nat.reducePow, Nat.reduceAdd, Nat.reduceMul]
      refine WL_nil ?_
      refine WC_block ?_
      refine WC_loopS (ι := Nat) [46, 47, 48, 14, 15, 49, 50, 51, 52, 53, 54, 55, 56, 57, 58, 59, 60, 61, 62, 63, 64, 65, 66] (fun k => [(45, vn .i64 (k)), (13, vn .u64 (crr (mulf (dig A) (dig N) 17) k))]) (fun k => [(6, (some b6, .cells (arr .u8 68 (fun i => if i < 2 * k then byt (psum (mulf (dig A) (dig N) 17) 34) i else 0)) 109 (0, 0)))]) (fun k => k ≤ 34) (fun k => 34 - k) 0 ?_ ?_ ?_ ?_
      · rw [crr_zero]
        try rfl
      · simp only [Nat.mul_zero, Nat.not_lt_zero, if_false]; rfl
      · exact (by omega)
      · intro k g hI
        dsimp only [setAll, setG, setM, List.set]
        have hm := fun p => mulf_le (dig A) (dig N) 17 p (dig_lt A) (dig_lt N)
        have hm1 := hm k
        have hcc := crr_le (mulf (dig A) (dig N) 17) _ k hm
        refine WC_seq ?_
        refine WC_region ?_
        refine WL_det rfl (det_lss (q := 34) rfl rfl) ?_
        dsimp only [put, List.set, ev, nth, List.nil_append, List.cons_append, md, Nat.reducePow, Nat.reduceAdd, Nat.reduceMul]
        refine WL_nil ?_
        refine WC_seq ?_
        refine WC_cond rfl (fun hc2 => ?_) (fun hc2 => ?_)
        · have hc2 := of_decide_eq_true hc2
          refine WC_skip ?_
          refine WC_seq ?_
          refine WC_block ?_
          refine WC_seq ?_
          refine WC_region ?_
          refine WL_det rfl (det_move) ?_
          dsimp only [put, List.set, ev, nth, List.nil_append, List.cons_append, md, Nat.reducePow, Nat.reduceAdd, Nat.reduceMul]
          refine WL_det rfl (det_index Try.underlying108 Try.sizeOf99 Try.isAgg99 rfl rfl rfl (by omega)) ?_
          dsimp only [put, List.set, ev, nth, List.nil_append, List.cons_append, md, Nat.reducePow, Nat.reduceAdd, Nat.reduceMul]
          refine WL_det rfl (det_assign) ?_
          dsimp only [put, List.set, ev, nth, List.nil_append, List.cons_append, md, Nat.reducePow, Nat.reduceAdd, Nat.reduceMul]
          refine WL_det rfl (det_assign) ?_
          dsimp only [put, List.set, ev, nth, List.nil_append, List.cons_append, md, Nat.reducePow, Nat.reduceAdd, Nat.reduceMul]
          refine WL_nil ?_
          refine WC_seq ?_
          refine WC_region ?_
          refine WL_det rfl (det_move) ?_
          dsimp only [put, List.set, ev, nth, List.nil_append, List.cons_append, md, Nat.reducePow, Nat.reduceAdd, Nat.reduceMul]
          refine WL_det rfl (det_move) ?_
          dsimp only [put, List.set, ev, nth, List.nil_append, List.cons_append, md, Nat.reducePow, Nat.reduceAdd, Nat.reduceMul]
          refine WL_det rfl (det_add' rfl rfl rfl (by simp only [md]; omega)) ?_
          dsimp only [put, List.set, ev, nth, List.nil_append, List.cons_append, md, Nat.reducePow, Nat.reduceAdd, Nat.reduceMul]
          refine WL_det rfl (det_assign) ?_
          dsimp only [put, List.set, ev, nth, List.nil_append, List.cons_append, md, Nat.reducePow, Nat.reduceAdd, Nat.reduceMul]
          refine WL_nil ?_
          refine WC_region ?_
          refine WL_det rfl (det_move) ?_
          dsimp only [put, List.set, ev, nth, List.nil_append, List.cons_append, md, Nat.reducePow, Nat.reduceAdd, Nat.reduceMul]
          refine WL_det rfl (det_muli (p := 2) rfl rfl (by omega)) ?_
          dsimp only [put, List.set, ev, nth, List.nil_append, List.cons_append, md, Nat.reducePow, Nat.reduceAdd, Nat.reduceMul]
          refine WL_det rfl (det_move) ?_
          dsimp only [put, List.set, ev, nth, List.nil_append, List.cons_append, md, Nat.reducePow, Nat.reduceAdd, Nat.reduceMul]
          refine WL_det rfl (det_muli (p := 2) rfl rfl (by omega)) ?_
          dsimp only [put, List.set, ev, nth, List.nil_append, List.cons_append, md, Nat.reducePow, Nat.reduceAdd, Nat.reduceMul]
          refine WL_det rfl (det_addi (q := 1) rfl rfl (by omega)) ?_
          dsimp only [put, List.set, ev, nth, List.nil_append, List.cons_append, md, Nat.reducePow, Nat.reduceAdd, Nat.reduceMul]
          refine WL_det rfl (det_move) ?_
          dsimp only [put, List.set, ev, nth, List.nil_append, List.cons_append, md, Nat.reducePow, Nat.reduceAdd, Nat.reduceMul]
          refine WL_det rfl (det_conv Try.underlying5 Try.underlying99 rfl rfl) ?_
          dsimp only [put, List.set, ev, nth, List.nil_append, List.cons_append, md, Nat.reducePow, Nat.reduceAdd, Nat.reduceMul]
          refine WL_det rfl (det_move) ?_
          dsimp only [put, List.set, ev, nth, List.nil_append, List.cons_append, md, Nat.reducePow, Nat.reduceAdd, Nat.reduceMul]
          refine WL_det rfl (det_shr (s := 8) rfl rfl (by decide)) ?_
          dsimp only [put, List.set, ev, nth, List.nil_append, List.cons_append, md, Nat.reducePow, Nat.reduceAdd, Nat.reduceMul]
          refine WL_det rfl (det_conv Try.underlying5 Try.underlying99 rfl rfl) ?_
          dsimp only [put, List.set, ev, nth, List.nil_append, List.cons_append, md, Nat.reducePow, Nat.reduceAdd, Nat.reduceMul]
          refine WL_det rfl (det_move) ?_
          dsimp only [put, List.set, ev, nth, List.nil_append, List.cons_append, md, Nat.reducePow, Nat.reduceAdd, Nat.reduceMul]
          refine WL_det rfl (det_shr (s := 16) rfl rfl (by decide)) ?_
          dsimp only [put, List.set, ev, nth, List.nil_append, List.cons_append, md, Nat.reducePow, Nat.reduceAdd, Nat.reduceMul]
          refine WL_det rfl (det_idxA Try.underlying109 Try.sizeOf5 rfl rfl (rfl) (by omega)) ?_
          dsimp only [put, List.set, ev, nth, List.nil_append, List.cons_append, md, Nat.reducePow, Nat.reduceAdd, Nat.reduceMul]
          refine WL_chg rfl (chg_storeA 6 Try.sizeOf5 rfl rfl (by omega) rfl) ?_
          rintro _ _ rfl
          dsimp only [put, List.set, ev, nth, List.nil_append, List.cons_append, md, Nat.reducePow, Nat.reduceAdd, Nat.reduceMul]
          refine WL_det rfl (det_idxA Try.underlying109 Try.sizeOf5 rfl rfl (rfl) (by omega)) ?_
          dsimp only [put, List.set, ev, nth, List.nil_append, List.cons_append, md, Nat.reducePow, Nat.reduceAdd, Nat.reduceMul]
          refine WL_chg rfl (chg_storeA 6 Try.sizeOf5 rfl rfl (by omega) rfl) ?_
          rintro _ _ rfl
          dsimp only [put, List.set, ev, nth, List.nil_append, List.cons_append, md, Nat.reducePow, Nat.reduceAdd, Nat.reduceMul]
          refine WL_det rfl (det_assign) ?_
          dsimp only [put, List.set, ev, nth, List.nil_append, List.cons_append, md, Nat.reducePow, Nat.reduceAdd, Nat.reduceMul]
          refine WL_nil ?_
          refine WC_region ?_
          refine WL_det rfl (det_addi (q := 1) rfl rfl (by omega)) ?_
          dsimp only [put, List.set, ev, nth, List.nil_append, List.cons_append, md, Nat.reducePow, Nat.reduceAdd, Nat.reduceMul]
          refine WL_det rfl (det_move) ?_
          dsimp only [put, List.set, ev, nth, List.nil_append, List.cons_append, md, Nat.reducePow, Nat.reduceAdd, Nat.reduceMul]
          refine WL_nil ?_
          refine ⟨k + 1, ?_, ?_, ?_, ?_⟩
          · rw [← crr_succ]
            try rfl
          · rw [out_step _ _ hc2]
          · omega
          · omega
        · have hc2 := of_decide_eq_false hc2
          obtain rfl : k = 34 := by omega
          rw [arr_congr (f := fun i => if i < 2 * 34 then byt (psum (mulf (dig A) (dig N) 17) 34) i else 0) (g := byt (psum (mulf (dig A) (dig N) 17) 34)) (fun i hi => if_pos hi)]
          refine WC_exit ?_
          refine inB_same ?_
          refine WC_seq ?_
          refine WC_region ?_
          refine WL_det rfl (det_sliceA Try.underlying109 Try.sizeOf5 rfl) ?_
          dsimp only [put, List.set, ev, nth, List.nil_append, List.cons_append, md, Nat.reducePow, Nat.reduceAdd, Nat.reduceMul]
          refine WL_rel rfl (Rel_call rfl Try.call68 (fun w hw => taken_spec (some ⟨_, 0, none⟩) 68 68 _ 0 (byt (psum (mulf (dig A) (dig N) 17) 34)) (fun i _ => byt_lt _ i) (by decide) (fun _ => rfl) w (hw.cellA 6 rfl))) ?_
          rintro _ _ ⟨rfl, rfl⟩
          dsimp only [put, List.append_nil, List.set, ev, nth, List.nil_append, List.cons_append, md, Nat.reducePow, Nat.reduceAdd, Nat.reduceMul]
          refine WL_rel rfl (Rel_call rfl Try.call69 (fun w hw => bytes_spec _ w)) ?_
          rintro _ _ ⟨rfl, rfl⟩
          dsimp only [put, List.append_nil, List.set, ev, nth, List.nil_append, List.cons_append, md, Nat.reducePow, Nat.reduceAdd, Nat.reduceMul]
          refine WL_chg rfl (chg_storeWA 2 Try.sizeOf22 rfl rfl rfl) ?_
          rintro _ _ rfl
          dsimp only [put, List.set, ev, nth, List.nil_append, List.cons_append, md, Nat.reducePow, Nat.reduceAdd, Nat.reduceMul]
          refine WL_nil ?_
          refine WC_ret ?_
          rw [show lev (byt (psum (mulf (dig A) (dig N) 17) 34)) 68 = A * N from mul_bytes A N hA hN hV]
          refine fin_cell 2 Try.results37 rfl rfl Try.underlying22 rfl i22 (arr_size _ _ _) ([]) (List.nil_sublist _) ?_
          exact ⟨rfl, rfl⟩

set_option maxRecDepth 100000 in
set_option maxHeartbeats 400000 in
theorem muladd_spec (A N C : Nat) (hA : A < D32) (hN : N < D32) (hC : C < D32) (w : World) :
    Calls Try.prog 39 [.agg (arr .u8 32 (byt A)), .agg (arr .u8 32 (byt N)), .agg (arr .u8 32 (byt C))].toArray w (PostV w (.agg (arr .u8 32 (byt ((A * N % Qn + C) % Qn))))) := by
  refine calls_of_WC Try.func39 rfl ?_
  simp only [Try.ntmps39, List.length_cons, List.length_nil, Nat.reduceAdd, Nat.reduceSub, List.replicate, List.cons_append, List.nil_append]
  refine WC_seq ?_
  refine WC_region ?_
  refine WL_rel rfl (rel_box rfl rfl) ?_
  rintro _ _ ⟨b0, rfl, rfl⟩
  dsimp only [put, List.set, ev, nth, List.nil_append, List.cons_append, md, Nat.reducePow, Nat.reduceAdd, Nat.reduceMul]
  refine WL_rel rfl (rel_box rfl rfl) ?_
  rintro _ _ ⟨b1, rfl, rfl⟩
  dsimp only [put, List.set, ev, nth, List.nil_append, List.cons_append, md, Nat.reducePow, Nat.reduceAdd, Nat.reduceMul]
  refine WL_rel rfl (rel_box rfl rfl) ?_
  rintro _ _ ⟨b2, rfl, rfl⟩
  dsimp only [put, List.set, ev, nth, List.nil_append, List.cons_append, md, Nat.reducePow, Nat.reduceAdd, Nat.reduceMul]
  refine WL_rel rfl (rel_alloc z22 rfl) ?_
  rintro _ _ ⟨b3, rfl, rfl⟩
  dsimp only [put, List.set, ev, nth, List.nil_append, List.cons_append, md, Nat.reducePow, Nat.reduceAdd, Nat.reduceMul]
  refine WL_nil ?_
  refine WC_seq ?_
  refine WC_draw [[], [], [0, 1], [], [0, 1, 2, 3], [0, 1, 2, 3, 4]] [5] 12 [] (List.nil_sublist _) mixed rfl (by decide) ?_
  refine RW.det [] rfl rfl rfl rfl (fun _ => rfl) (fun V hV => Det.rel (det_loadWA 0 Try.underlying22 rfl i22 rfl rfl)) (fun _ _ _ => rfl) ?_
  dsimp only [put, List.set, ev, nth, List.nil_append, List.cons_append, md, Nat.reducePow, Nat.reduceAdd, Nat.reduceMul]
  refine RW.det [] rfl rfl rfl rfl (fun _ => rfl) (fun V hV => Det.rel (det_loadWA 1 Try.underlying22 rfl i22 rfl rfl)) (fun _ _ _ => rfl) ?_
  dsimp only [put, List.set, ev, nth, List.nil_append, List.cons_append, md, Nat.reducePow, Nat.reduceAdd, Nat.reduceMul]
  refine RW.det [] rfl rfl rfl rfl (fun _ => rfl) (fun V hV => Rel_call rfl Try.call37 (fun w hw => mul_spec A N hA hN w)) (fun _ _ _ => rfl) ?_
  dsimp only [put, List.set, ev, nth, List.nil_append, List.cons_append, md, Nat.reducePow, Nat.reduceAdd, Nat.reduceMul]
  refine RW.det [] rfl rfl rfl rfl (fun _ => rfl) (fun V hV => Det.rel (det_loadWA 2 Try.underlying22 rfl i22 rfl rfl)) (fun _ _ _ => rfl) ?_
  dsimp only [put, List.set, ev, nth, List.nil_append, List.cons_append, md, Nat.reducePow, Nat.reduceAdd, Nat.reduceMul]
  refine RW.det [] rfl rfl rfl rfl (fun _ => rfl) (fun V hV => Rel_call rfl Try.call35 (fun w hw => add_spec _ C (Nat.lt_of_lt_of_le (Nat.mod_lt _ Qn_pos) (by decide)) hC w)) (fun _ _ _ => rfl) ?_
  dsimp only [put, List.set, ev, nth, List.nil_append, List.cons_append, md, Nat.reducePow, Nat.reduceAdd, Nat.reduceMul]
  refine RW.tail' (B := fun V => _ ++ flat [] V) rfl rfl rfl rfl (fun _ => rfl) (fun V hV => chg_storeWA 3 Try.sizeOf22 rfl rfl rfl) (fun _ _ _ _ _ h => h) (fun _ _ _ _ _ => List.nil_sublist _) ?_
  dsimp only [put, List.set, ev, nth, List.nil_append, List.cons_append, md, Nat.reducePow, Nat.reduceAdd, Nat.reduceMul]
  refine RW.done (fun V => (V 5).2) rfl rfl (fun _ => rfl) (fun V hV => ?_)
  have ht5 : (V 5).2 = _ := hV 5 _ rfl
  simp only [ht5, flat_nil]
  try dsimp only [put, blk, flat_nil, List.append_nil, List.append, List.eraseIdx, List.set, ev, nth, List.nil_append, List.cons_append, md, Nat.reducePow, Nat.reduceAdd, Nat.reduceMul]
  clear hV ht5
  refine WC_ret ?_
  refine fin_cell 3 Try.results39 rfl rfl Try.underlying22 rfl i22 (arr_size _ _ _) ([]) (List.nil_sublist _) ?_
  exact ⟨rfl, rfl⟩

end Go.Proofs.Ytpmldkhgdpchjaa
