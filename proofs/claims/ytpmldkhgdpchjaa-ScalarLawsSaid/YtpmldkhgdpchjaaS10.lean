/- Walks of the Go functions, printed by a program of this claim. Conditions: none. -/
import Derived.Test.YtpmldkhgdpchjaaS9
set_option linter.unusedVariables false
namespace Go.Proofs.Ytpmldkhgdpchjaa
open Go.MW
theorem neg_add (A : Nat) : ((Qn - A % Qn) % Qn + A) % Qn = 0 := by
  have h := Nat.mod_lt A Qn_pos
  rw [Nat.mod_add_mod, ← Nat.add_mod_mod, Nat.sub_add_cancel (Nat.le_of_lt h), Nat.mod_self]

set_option maxRecDepth 100000 in
set_option maxHeartbeats 400000 in
theorem sums_spec (A N C : Nat) (hA : A < D32) (hN : N < D32) (hC : C < D32) (w : World) :
    Calls Try.prog 6 [.agg (arr .u8 32 (byt A)), .agg (arr .u8 32 (byt N)), .agg (arr .u8 32 (byt C))].toArray w (PostV w (.bool true)) := by
  refine calls_of_WC Try.func6 rfl ?_
  simp only [Try.ntmps6, List.length_cons, List.length_nil, Nat.reduceAdd, Nat.reduceSub, List.replicate, List.cons_append, List.nil_append]
  refine WC_seq ?_
  refine WC_region ?_
  refine WL_rel rfl (rel_box rfl rfl) ?_
  rintro _ _ ⟨b0, rfl, rfl⟩
  dsimp only [put, List.set, ev, nth, List.nil_append, List.cons_append, md, Nat.reducePow, Nat.reduceAdd, Nat.reduceMul]
  refine WL_rel rfl (rel_box rfl rfl) ?_
  rintro _ _ ⟨b1, rfl, rfl⟩
  dsimp only [put, List.set, ev, nth, List.nil_append, List.cons_append, md, Nat.reducePow, Nat.reduceAdd, Nat.reduceMul]
  refine WL_rel rfl (rel_box rfl rfl) ?_
  rintro _ _ ⟨b2, rfl, rfl⟩
  dsimp only [put, List.set, ev, nth, List.nil_append, List.cons_append, md, Nat.reducePow, Nat.reduceAdd, Nat.reduceMul]
  refine WL_det rfl (det_assign) ?_
  dsimp only [put, List.set, ev, nth, List.nil_append, List.cons_append, md, Nat.reducePow, Nat.reduceAdd, Nat.reduceMul]
  refine WL_nil ?_
  refine WC_seq ?_
  refine WC_seq ?_
  refine WC_region ?_
  refine WL_rel rfl (Rel_call rfl Try.call22 (fun w hw => awake_spec w)) ?_
  rintro _ _ ⟨rfl, rfl⟩
  dsimp only [put, List.append_nil, List.set, ev, nth, List.nil_append, List.cons_append, md, Nat.reducePow, Nat.reduceAdd, Nat.reduceMul]
  refine WL_det rfl (det_not rfl) ?_
  dsimp only [put, List.set, ev, nth, List.nil_append, List.cons_append, md, Nat.reducePow, Nat.reduceAdd, Nat.reduceMul]
  refine WL_nil ?_
  refine WC_cond_false rfl ?_
  refine WC_skip ?_
  refine WC_seq ?_
  refine WC_region ?_
  refine WL_det rfl (det_loadWA 0 Try.underlying22 rfl i22 rfl rfl) ?_
  dsimp only [put, List.set, ev, nth, List.nil_append, List.cons_append, md, Nat.reducePow, Nat.reduceAdd, Nat.reduceMul]
  refine WL_rel rfl (Rel_call rfl Try.call34 (fun w hw => neg_spec A hA w)) ?_
  rintro _ _ ⟨rfl, rfl⟩
  dsimp only [put, List.append_nil, List.set, ev, nth, List.nil_append, List.cons_append, md, Nat.reducePow, Nat.reduceAdd, Nat.reduceMul]
  refine WL_rel rfl (rel_alloc z22 rfl) ?_
  rintro _ _ ⟨b3, rfl, rfl⟩
  dsimp only [put, List.set, ev, nth, List.nil_append, List.cons_append, md, Nat.reducePow, Nat.reduceAdd, Nat.reduceMul]
  refine WL_chg rfl (chg_storeWA 3 Try.sizeOf22 rfl rfl rfl) ?_
  rintro _ _ rfl
  dsimp only [put, List.set, ev, nth, List.nil_append, List.cons_append, md, Nat.reducePow, Nat.reduceAdd, Nat.reduceMul]
  refine WL_nil ?_
  refine WC_seq ?_
  refine WC_draw [[], [], [0, 1], [], [], [0, 1, 2, 3, 4], [0, 1, 2, 3, 4, 5], [0, 1, 2, 3, 4, 5, 6], [0, 1, 2, 3, 4, 5, 6, 7], [0, 1, 2, 3, 4, 5, 6, 7], [0, 1, 2, 3, 4, 5, 6, 7, 8, 9], [0, 1, 2, 3, 4, 5, 6, 7], [0, 1, 2, 3, 4, 5, 6, 7], [0, 1, 2, 3, 4, 5, 6, 7, 8, 9, 10, 11, 12], [0, 1, 2, 3, 4, 5, 6, 7, 8, 9, 10, 11, 12, 13], [0, 1, 2, 3, 4, 5, 6, 7, 8, 9, 10, 11, 12, 13, 14], [0, 1, 2, 3, 4, 5, 6, 7, 8, 9, 10, 11, 12, 13, 14, 15], [0, 1, 2, 3, 4, 5, 6, 7, 8, 9, 10, 11, 12, 13, 14, 15, 16], [0, 1, 2, 3, 4, 5, 6, 7, 8, 9, 10, 11, 12, 13, 14, 15, 16], [0, 1, 2, 3, 4, 5, 6, 7, 8, 9, 10, 11, 12, 13, 14, 15, 16], [0, 1, 2, 3, 4, 5, 6, 7, 8, 9, 10, 11, 12, 13, 14, 15, 16, 17, 18, 19], [0, 1, 2, 3, 4, 5, 6, 7, 8, 9, 10, 11, 12, 13, 14, 15, 16], [0, 1, 2, 3, 4, 5, 6, 7, 8, 9, 10, 11, 12, 13, 14, 15, 16], [0, 1, 2, 3, 4, 5, 6, 7, 8, 9, 10, 11, 12, 13, 14, 15, 16, 17, 18, 19, 20, 21, 22], [0, 1, 2, 3, 4, 5, 6, 7, 8, 9, 10, 11, 12, 13, 14, 15, 16], [0, 1, 2, 3, 4, 5, 6, 7, 8, 9, 10, 11, 12, 13, 14, 15, 16, 17, 18, 19, 20, 21, 22, 23, 24], [0, 1, 2, 3, 4, 5, 6, 7, 8, 9, 10, 11, 12, 13, 14, 15, 16, 17, 18, 19, 20, 21, 22, 23, 24, 25], [0, 1, 2, 3, 4, 5, 6, 7, 8, 9, 10, 11, 12, 13, 14, 15, 16, 17, 18, 19, 20, 21, 22, 23, 24, 25, 26], [0, 1, 2, 3, 4, 5, 6, 7, 8, 9, 10, 11, 12, 13, 14, 15, 16, 17, 18, 19, 20, 21, 22, 23, 24, 25, 26, 27], [0, 1, 2, 3, 4, 5, 6, 7, 8, 9, 10, 11, 12, 13, 14, 15, 16, 17, 18, 19, 20, 21, 22, 23, 24, 25, 26, 27, 28], [0, 1, 2, 3, 4, 5, 6, 7, 8, 9, 10, 11, 12, 13, 14, 15, 16, 17, 18, 19, 20, 21, 22, 23, 24, 25, 26, 27, 28, 29], [0, 1, 2, 3, 4, 5, 6, 7, 8, 9, 10, 11, 12, 13, 14, 15, 16, 17, 18, 19, 20, 21, 22, 23, 24, 25, 26, 27, 28, 29, 30], [0, 1, 2, 3, 4, 5, 6, 7, 8, 9, 10, 11, 12, 13, 14, 15, 16, 17, 18, 19, 20, 21, 22, 23, 24, 25, 26, 27, 28, 29, 30, 31], [0, 1, 2, 3, 4, 5, 6, 7, 8, 9, 10, 11, 12, 13, 14, 15, 16, 17, 18, 19, 20, 21, 22, 23, 24, 25, 26, 27, 28, 29, 30, 31, 32], [0, 1, 2, 3, 4, 5, 6, 7, 8, 9, 10, 11, 12, 13, 14, 15, 16, 17, 18, 19, 20, 21, 22, 23, 24, 25, 26, 27, 28, 29, 30, 31, 32], [0, 1, 2, 3, 4, 5, 6, 7, 8, 9, 10, 11, 12, 13, 14, 15, 16, 17, 18, 19, 20, 21, 22, 23, 24, 25, 26, 27, 28, 29, 30, 31, 32, 33, 34], [0, 1, 2, 3, 4, 5, 6, 7, 8, 9, 10, 11, 12, 13, 14, 15, 16, 17, 18, 19, 20, 21, 22, 23, 24, 25, 26, 27, 28, 29, 30, 31, 32], [0, 1, 2, 3, 4, 5, 6, 7, 8, 9, 10, 11, 12, 13, 14, 15, 16, 17, 18, 19, 20, 21, 22, 23, 24, 25, 26, 27, 28, 29, 30, 31, 32, 33, 34, 35, 36], [0, 1, 2, 3, 4, 5, 6, 7, 8, 9, 10, 11, 12, 13, 14, 15, 16, 17, 18, 19, 20, 21, 22, 23, 24, 25, 26, 27, 28, 29, 30, 31, 32, 33, 34, 35, 36, 37], [0, 1, 2, 3, 4, 5, 6, 7, 8, 9, 10, 11, 12, 13, 14, 15, 16, 17, 18, 19, 20, 21, 22, 23, 24, 25, 26, 27, 28, 29, 30, 31, 32, 33, 34, 35, 36, 37, 38]] [] 51 [] (List.nil_sublist _) mixed rfl (by decide) ?_
  refine RW.det [] rfl rfl rfl rfl (fun _ => rfl) (fun V hV => Det.rel (det_loadWA 0 Try.underlying22 rfl i22 rfl rfl)) (fun _ _ _ => rfl) ?_
  dsimp only [put, List.set, ev, nth, List.nil_append, List.cons_append, md, Nat.reducePow, Nat.reduceAdd, Nat.reduceMul]
  refine RW.det [] rfl rfl rfl rfl (fun _ => rfl) (fun V hV => Det.rel (det_loadWA 1 Try.underlying22 rfl i22 rfl rfl)) (fun _ _ _ => rfl) ?_
  dsimp only [put, List.set, ev, nth, List.nil_append, List.cons_append, md, Nat.reducePow, Nat.reduceAdd, Nat.reduceMul]
  refine RW.det [] rfl rfl rfl rfl (fun _ => rfl) (fun V hV => Rel_call rfl Try.call35 (fun w hw => add_spec A N hA hN w)) (fun _ _ _ => rfl) ?_
  dsimp only [put, List.set, ev, nth, List.nil_append, List.cons_append, md, Nat.reducePow, Nat.reduceAdd, Nat.reduceMul]
  refine RW.det [] rfl rfl rfl rfl (fun _ => rfl) (fun V hV => Det.rel (det_loadWA 0 Try.underlying22 rfl i22 rfl rfl)) (fun _ _ _ => rfl) ?_
  dsimp only [put, List.set, ev, nth, List.nil_append, List.cons_append, md, Nat.reducePow, Nat.reduceAdd, Nat.reduceMul]
  refine RW.det [] rfl rfl rfl rfl (fun _ => rfl) (fun V hV => Det.rel (det_loadWA 1 Try.underlying22 rfl i22 rfl rfl)) (fun _ _ _ => rfl) ?_
  dsimp only [put, List.set, ev, nth, List.nil_append, List.cons_append, md, Nat.reducePow, Nat.reduceAdd, Nat.reduceMul]
  refine RW.det [] rfl rfl rfl rfl (fun _ => rfl) (fun V hV => Rel_call rfl Try.call36 (fun w hw => radd_spec A N hA hN w)) (fun _ _ _ => rfl) ?_
  dsimp only [put, List.set, ev, nth, List.nil_append, List.cons_append, md, Nat.reducePow, Nat.reduceAdd, Nat.reduceMul]
  refine RW.pure rfl rfl (fun _ => rfl) (fun V hV => Det.bv true (det_eqlA Try.underlying22 Try.sizeOf5 Try.isAgg5 Try.underlying5 Try.eqGuardType22 rfl rfl) (eqA_same fun _ _ => rfl)) (fun _ _ _ => rfl) ?_
  dsimp only [put, List.set, ev, nth, List.nil_append, List.cons_append, md, Nat.reducePow, Nat.reduceAdd, Nat.reduceMul]
  refine RW.pure rfl rfl (fun _ => rfl) (fun V hV => det_move) (fun _ _ _ => rfl) ?_
  dsimp only [put, List.set, ev, nth, List.nil_append, List.cons_append, md, Nat.reducePow, Nat.reduceAdd, Nat.reduceMul]
  refine RW.det [] rfl rfl rfl rfl (fun _ => rfl) (fun V hV => Det.rel (det_loadWA 0 Try.underlying22 rfl i22 rfl rfl)) (fun _ _ _ => rfl) ?_
  dsimp only [put, List.set, ev, nth, List.nil_append, List.cons_append, md, Nat.reducePow, Nat.reduceAdd, Nat.reduceMul]
  refine RW.det [] rfl rfl rfl rfl (fun _ => rfl) (fun V hV => Det.rel (det_loadWA 1 Try.underlying22 rfl i22 rfl rfl)) (fun _ _ _ => rfl) ?_
  dsimp only [put, List.set, ev, nth, List.nil_append, List.cons_append, md, Nat.reducePow, Nat.reduceAdd, Nat.reduceMul]
  refine RW.det [] rfl rfl rfl rfl (fun _ => rfl) (fun V hV => Rel_call rfl Try.call37 (fun w hw => mul_spec A N hA hN w)) (fun _ _ _ => rfl) ?_
  dsimp only [put, List.set, ev, nth, List.nil_append, List.cons_append, md, Nat.reducePow, Nat.reduceAdd, Nat.reduceMul]
  refine RW.det [] rfl rfl rfl rfl (fun _ => rfl) (fun V hV => Det.rel (det_loadWA 0 Try.underlying22 rfl i22 rfl rfl)) (fun _ _ _ => rfl) ?_
  dsimp only [put, List.set, ev, nth, List.nil_append, List.cons_append, md, Nat.reducePow, Nat.reduceAdd, Nat.reduceMul]
  refine RW.det [] rfl rfl rfl rfl (fun _ => rfl) (fun V hV => Det.rel (det_loadWA 1 Try.underlying22 rfl i22 rfl rfl)) (fun _ _ _ => rfl) ?_
  dsimp only [put, List.set, ev, nth, List.nil_append, List.cons_append, md, Nat.reducePow, Nat.reduceAdd, Nat.reduceMul]
  refine RW.det [] rfl rfl rfl rfl (fun _ => rfl) (fun V hV => Rel_call rfl Try.call38 (fun w hw => rmul_spec A N hA hN w)) (fun _ _ _ => rfl) ?_
  dsimp only [put, List.set, ev, nth, List.nil_append, List.cons_append, md, Nat.reducePow, Nat.reduceAdd, Nat.reduceMul]
  refine RW.pure rfl rfl (fun _ => rfl) (fun V hV => Det.bv true (det_eqlA Try.underlying22 Try.sizeOf5 Try.isAgg5 Try.underlying5 Try.eqGuardType22 rfl rfl) (eqA_same fun _ _ => rfl)) (fun _ _ _ => rfl) ?_
  dsimp only [put, List.set, ev, nth, List.nil_append, List.cons_append, md, Nat.reducePow, Nat.reduceAdd, Nat.reduceMul]
  refine RW.pure rfl rfl (fun _ => rfl) (fun V hV => det_pick_true rfl) (fun _ _ _ => rfl) ?_
  dsimp only [put, List.set, ev, nth, List.nil_append, List.cons_append, md, Nat.reducePow, Nat.reduceAdd, Nat.reduceMul]
  refine RW.pure rfl rfl (fun _ => rfl) (fun V hV => det_move) (fun _ _ _ => rfl) ?_
  dsimp only [put, List.set, ev, nth, List.nil_append, List.cons_append, md, Nat.reducePow, Nat.reduceAdd, Nat.reduceMul]
  refine RW.det [] rfl rfl rfl rfl (fun _ => rfl) (fun V hV => Det.rel (det_loadWA 0 Try.underlying22 rfl i22 rfl rfl)) (fun _ _ _ => rfl) ?_
  dsimp only [put, List.set, ev, nth, List.nil_append, List.cons_append, md, Nat.reducePow, Nat.reduceAdd, Nat.reduceMul]
  refine RW.det [] rfl rfl rfl rfl (fun _ => rfl) (fun V hV => Det.rel (det_loadWA 1 Try.underlying22 rfl i22 rfl rfl)) (fun _ _ _ => rfl) ?_
  dsimp only [put, List.set, ev, nth, List.nil_append, List.cons_append, md, Nat.reducePow, Nat.reduceAdd, Nat.reduceMul]
  refine RW.det [] rfl rfl rfl rfl (fun _ => rfl) (fun V hV => Det.rel (det_loadWA 2 Try.underlying22 rfl i22 rfl rfl)) (fun _ _ _ => rfl) ?_
  dsimp only [put, List.set, ev, nth, List.nil_append, List.cons_append, md, Nat.reducePow, Nat.reduceAdd, Nat.reduceMul]
  refine RW.det [] rfl rfl rfl rfl (fun _ => rfl) (fun V hV => Rel_call rfl Try.call39 (fun w hw => muladd_spec A N C hA hN hC w)) (fun _ _ _ => rfl) ?_
  dsimp only [put, List.set, ev, nth, List.nil_append, List.cons_append, md, Nat.reducePow, Nat.reduceAdd, Nat.reduceMul]
  refine RW.det [] rfl rfl rfl rfl (fun _ => rfl) (fun V hV => Det.rel (det_loadWA 0 Try.underlying22 rfl i22 rfl rfl)) (fun _ _ _ => rfl) ?_
  dsimp only [put, List.set, ev, nth, List.nil_append, List.cons_append, md, Nat.reducePow, Nat.reduceAdd, Nat.reduceMul]
  refine RW.det [] rfl rfl rfl rfl (fun _ => rfl) (fun V hV => Det.rel (det_loadWA 1 Try.underlying22 rfl i22 rfl rfl)) (fun _ _ _ => rfl) ?_
  dsimp only [put, List.set, ev, nth, List.nil_append, List.cons_append, md, Nat.reducePow, Nat.reduceAdd, Nat.reduceMul]
  refine RW.det [] rfl rfl rfl rfl (fun _ => rfl) (fun V hV => Rel_call rfl Try.call38 (fun w hw => rmul_spec A N hA hN w)) (fun _ _ _ => rfl) ?_
  dsimp only [put, List.set, ev, nth, List.nil_append, List.cons_append, md, Nat.reducePow, Nat.reduceAdd, Nat.reduceMul]
  refine RW.det [] rfl rfl rfl rfl (fun _ => rfl) (fun V hV => Det.rel (det_loadWA 2 Try.underlying22 rfl i22 rfl rfl)) (fun _ _ _ => rfl) ?_
  dsimp only [put, List.set, ev, nth, List.nil_append, List.cons_append, md, Nat.reducePow, Nat.reduceAdd, Nat.reduceMul]
  refine RW.det [] rfl rfl rfl rfl (fun _ => rfl) (fun V hV => Rel_call rfl Try.call36 (fun w hw => radd_spec _ C (Nat.lt_of_lt_of_le (Nat.mod_lt _ Qn_pos) (by decide)) hC w)) (fun _ _ _ => rfl) ?_
  dsimp only [put, List.set, ev, nth, List.nil_append, List.cons_append, md, Nat.reducePow, Nat.reduceAdd, Nat.reduceMul]
  refine RW.pure rfl rfl (fun _ => rfl) (fun V hV => Det.bv true (det_eqlA Try.underlying22 Try.sizeOf5 Try.isAgg5 Try.underlying5 Try.eqGuardType22 rfl rfl) (eqA_same fun _ _ => rfl)) (fun _ _ _ => rfl) ?_
  dsimp only [put, List.set, ev, nth, List.nil_append, List.cons_append, md, Nat.reducePow, Nat.reduceAdd, Nat.reduceMul]
  refine RW.pure rfl rfl (fun _ => rfl) (fun V hV => det_pick_true rfl) (fun _ _ _ => rfl) ?_
  dsimp only [put, List.set, ev, nth, List.nil_append, List.cons_append, md, Nat.reducePow, Nat.reduceAdd, Nat.reduceMul]
  refine RW.pure rfl rfl (fun _ => rfl) (fun V hV => det_move) (fun _ _ _ => rfl) ?_
  dsimp only [put, List.set, ev, nth, List.nil_append, List.cons_append, md, Nat.reducePow, Nat.reduceAdd, Nat.reduceMul]
  refine RW.det [] rfl rfl rfl rfl (fun _ => rfl) (fun V hV => Det.rel (det_loadWA 3 Try.underlying22 rfl i22 rfl rfl)) (fun _ _ _ => rfl) ?_
  dsimp only [put, List.set, ev, nth, List.nil_append, List.cons_append, md, Nat.reducePow, Nat.reduceAdd, Nat.reduceMul]
  refine RW.det [] rfl rfl rfl rfl (fun _ => rfl) (fun V hV => Rel_call rfl Try.call27 (fun w hw => right_true _ (Nat.mod_lt _ Qn_pos) w)) (fun _ _ _ => rfl) ?_
  dsimp only [put, List.set, ev, nth, List.nil_append, List.cons_append, md, Nat.reducePow, Nat.reduceAdd, Nat.reduceMul]
  refine RW.pure rfl rfl (fun _ => rfl) (fun V hV => det_pick_true rfl) (fun _ _ _ => rfl) ?_
  dsimp only [put, List.set, ev, nth, List.nil_append, List.cons_append, md, Nat.reducePow, Nat.reduceAdd, Nat.reduceMul]
  refine RW.pure rfl rfl (fun _ => rfl) (fun V hV => det_move) (fun _ _ _ => rfl) ?_
  dsimp only [put, List.set, ev, nth, List.nil_append, List.cons_append, md, Nat.reducePow, Nat.reduceAdd, Nat.reduceMul]
  refine RW.det [] rfl rfl rfl rfl (fun _ => rfl) (fun V hV => Det.rel (det_loadWA 3 Try.underlying22 rfl i22 rfl rfl)) (fun _ _ _ => rfl) ?_
  dsimp only [put, List.set, ev, nth, List.nil_append, List.cons_append, md, Nat.reducePow, Nat.reduceAdd, Nat.reduceMul]
  refine RW.det [] rfl rfl rfl rfl (fun _ => rfl) (fun V hV => Det.rel (det_loadWA 0 Try.underlying22 rfl i22 rfl rfl)) (fun _ _ _ => rfl) ?_
  dsimp only [put, List.set, ev, nth, List.nil_append, List.cons_append, md, Nat.reducePow, Nat.reduceAdd, Nat.reduceMul]
  refine RW.det [] rfl rfl rfl rfl (fun _ => rfl) (fun V hV => Rel_call rfl Try.call36 (fun w hw => radd_spec _ A (Nat.lt_of_lt_of_le (Nat.mod_lt _ Qn_pos) (by decide)) hA w)) (fun _ _ _ => rfl) ?_
  dsimp only [put, List.set, ev, nth, List.nil_append, List.cons_append, md, Nat.reducePow, Nat.reduceAdd, Nat.reduceMul]
  refine RW.pure rfl rfl (fun _ => rfl) (fun V hV => det_build0 z22 Try.underlying22 Try.sizeOf5) (fun _ _ _ => rfl) ?_
  dsimp only [put, List.set, ev, nth, List.nil_append, List.cons_append, md, Nat.reducePow, Nat.reduceAdd, Nat.reduceMul]
  refine RW.pure rfl rfl (fun _ => rfl) (fun V hV => Det.bv true (det_eqlA Try.underlying22 Try.sizeOf5 Try.isAgg5 Try.underlying5 Try.eqGuardType22 rfl rfl) (eqA_same fun i _ => by rw [neg_add, byt_zero])) (fun _ _ _ => rfl) ?_
  dsimp only [put, List.set, ev, nth, List.nil_append, List.cons_append, md, Nat.reducePow, Nat.reduceAdd, Nat.reduceMul]
  refine RW.pure rfl rfl (fun _ => rfl) (fun V hV => det_pick_true rfl) (fun _ _ _ => rfl) ?_
  dsimp only [put, List.set, ev, nth, List.nil_append, List.cons_append, md, Nat.reducePow, Nat.reduceAdd, Nat.reduceMul]
  refine RW.pure rfl rfl (fun _ => rfl) (fun V hV => det_assign) (fun _ _ _ => rfl) ?_
  dsimp only [put, List.set, ev, nth, List.nil_append, List.cons_append, md, Nat.reducePow, Nat.reduceAdd, Nat.reduceMul]
  refine RW.done (fun V => _ ++ flat [] V) rfl rfl (fun _ => rfl) (fun V hV => ?_)
  try dsimp only [put, blk, flat_nil, List.append_nil, List.append, List.eraseIdx, List.set, ev, nth, List.nil_append, List.cons_append, md, Nat.reducePow, Nat.reduceAdd, Nat.reduceMul]
  refine WC_ret ?_
  refine fin_tmp Try.results6 rfl ([]) (List.nil_sublist _) ?_
  exact ⟨rfl, rfl⟩

set_option maxRecDepth 100000 in
set_option maxHeartbeats 400000 in
theorem laws_spec (A N C : Nat) (hA : A < D32) (hN : N < D32) (hC : C < D32) (w : World) :
    Calls Try.prog 8 [.agg (arr .u8 32 (byt A)), .agg (arr .u8 32 (byt N)), .agg (arr .u8 32 (byt C))].toArray w (PostV w (.bool true)) := by
  refine calls_of_WC Try.func8 rfl ?_
  simp only [Try.ntmps8, List.length_cons, List.length_nil, Nat.reduceAdd, Nat.reduceSub, List.replicate, List.cons_append, List.nil_append]
  refine WC_seq ?_
  refine WC_region ?_
  refine WL_rel rfl (rel_box rfl rfl) ?_
  rintro _ _ ⟨b0, rfl, rfl⟩
  dsimp only [put, List.set, ev, nth, List.nil_append, List.cons_append, md, Nat.reducePow, Nat.reduceAdd, Nat.reduceMul]
  refine WL_rel rfl (rel_box rfl rfl) ?_
  rintro _ _ ⟨b1, rfl, rfl⟩
  dsimp only [put, List.set, ev, nth, List.nil_append, List.cons_append, md, Nat.reducePow, Nat.reduceAdd, Nat.reduceMul]
  refine WL_rel rfl (rel_box rfl rfl) ?_
  rintro _ _ ⟨b2, rfl, rfl⟩
  dsimp only [put, List.set, ev, nth, List.nil_append, List.cons_append, md, Nat.reducePow, Nat.reduceAdd, Nat.reduceMul]
  refine WL_det rfl (det_assign) ?_
  dsimp only [put, List.set, ev, nth, List.nil_append, List.cons_append, md, Nat.reducePow, Nat.reduceAdd, Nat.reduceMul]
  refine WL_nil ?_
  refine WC_seq ?_
  refine WC_seq ?_
  refine WC_region ?_
  refine WL_rel rfl (Rel_call rfl Try.call22 (fun w hw => awake_spec w)) ?_
  rintro _ _ ⟨rfl, rfl⟩
  dsimp only [put, List.append_nil, List.set, ev, nth, List.nil_append, List.cons_append, md, Nat.reducePow, Nat.reduceAdd, Nat.reduceMul]
  refine WL_det rfl (det_not rfl) ?_
  dsimp only [put, List.set, ev, nth, List.nil_append, List.cons_append, md, Nat.reducePow, Nat.reduceAdd, Nat.reduceMul]
  refine WL_nil ?_
  refine WC_cond_false rfl ?_
  refine WC_skip ?_
  refine WC_seq ?_
  refine WC_region ?_
  refine WL_det rfl (det_assign) ?_
  dsimp only [put, List.set, ev, nth, List.nil_append, List.cons_append, md, Nat.reducePow, Nat.reduceAdd, Nat.reduceMul]
  refine WL_det rfl (det_assign) ?_
  dsimp only [put, List.set, ev, nth, List.nil_append, List.cons_append, md, Nat.reducePow, Nat.reduceAdd, Nat.reduceMul]
  refine WL_nil ?_
  refine WC_seq ?_
  refine WC_seq ?_
  refine WC_draw [[], [], [], [0, 1, 2], [], [], [], [0, 1, 2, 3, 4, 5, 6], [0, 1, 2, 3, 4, 5, 6, 7], [0, 1, 2, 3, 4, 5, 6, 7, 8], [0, 1, 2, 3, 4, 5, 6, 7, 8, 9], [0, 1, 2, 3, 4, 5, 6, 7, 8, 9], [0, 1, 2, 3, 4, 5, 6, 7, 8, 9], [0, 1, 2, 3, 4, 5, 6, 7, 8, 9, 10, 11, 12], [0, 1, 2, 3, 4, 5, 6, 7, 8, 9], [0, 1, 2, 3, 4, 5, 6, 7, 8, 9], [0, 1, 2, 3, 4, 5, 6, 7, 8, 9], [0, 1, 2, 3, 4, 5, 6, 7, 8, 9, 10, 11, 12, 13, 14, 15, 16], [0, 1, 2, 3, 4, 5, 6, 7, 8, 9, 10, 11, 12, 13, 14, 15, 16, 17], [0, 1, 2, 3, 4, 5, 6, 7, 8, 9, 10, 11, 12, 13, 14, 15, 16, 17, 18], [0, 1, 2, 3, 4, 5, 6, 7, 8, 9, 10, 11, 12, 13, 14, 15, 16, 17, 18, 19], [0, 1, 2, 3, 4, 5, 6, 7, 8, 9, 10, 11, 12, 13, 14, 15, 16, 17, 18, 19, 20], [0, 1, 2, 3, 4, 5, 6, 7, 8, 9, 10, 11, 12, 13, 14, 15, 16, 17, 18, 19, 20], [0, 1, 2, 3, 4, 5, 6, 7, 8, 9, 10, 11, 12, 13, 14, 15, 16, 17, 18, 19, 20], [0, 1, 2, 3, 4, 5, 6, 7, 8, 9, 10, 11, 12, 13, 14, 15, 16, 17, 18, 19, 20], [0, 1, 2, 3, 4, 5, 6, 7, 8, 9, 10, 11, 12, 13, 14, 15, 16, 17, 18, 19, 20, 22, 23, 24], [0, 1, 2, 3, 4, 5, 6, 7, 8, 9, 10, 11, 12, 13, 14, 15, 16, 17, 18, 19, 20], [0, 1, 2, 3, 4, 5, 6, 7, 8, 9, 10, 11, 12, 13, 14, 15, 16, 17, 18, 19, 20, 21, 22, 23, 24, 25, 26], [0, 1, 2, 3, 4, 5, 6, 7, 8, 9, 10, 11, 12, 13, 14, 15, 16, 17, 18, 19, 20], [0, 1, 2, 3, 4, 5, 6, 7, 8, 9, 10, 11, 12, 13, 14, 15, 16, 17, 18, 19, 20], [0, 1, 2, 3, 4, 5, 6, 7, 8, 9, 10, 11, 12, 13, 14, 15, 16, 17, 18, 19, 20], [0, 1, 2, 3, 4, 5, 6, 7, 8, 9, 10, 11, 12, 13, 14, 15, 16, 17, 18, 19, 20], [0, 1, 2, 3, 4, 5, 6, 7, 8, 9, 10, 11, 12, 13, 14, 15, 16, 17, 18, 19, 20], [0, 1, 2, 3, 4, 5, 6, 7, 8, 9, 10, 11, 12, 13, 14, 15, 16, 17, 18, 19, 20, 21, 22, 23, 24, 25, 26, 27, 30, 31, 32], [0, 1, 2, 3, 4, 5, 6, 7, 8, 9, 10, 11, 12, 13, 14, 15, 16, 17, 18, 19, 20, 21, 22, 23, 24, 25, 26, 27, 28, 29, 30, 31, 32, 33], [0, 1, 2, 3, 4, 5, 6, 7, 8, 9, 10, 11, 12, 13, 14, 15, 16, 17, 18, 19, 20, 21, 22, 23, 24, 25, 26, 27, 28, 29, 30, 31, 32, 33, 34], [0, 1, 2, 3, 4, 5, 6, 7, 8, 9, 10, 11, 12, 13, 14, 15, 16, 17, 18, 19, 20, 21, 22, 23, 24, 25, 26, 27, 28, 29, 30, 31, 32, 33, 34, 35], [0, 1, 2, 3, 4, 5, 6, 7, 8, 9, 10, 11, 12, 13, 14, 15, 16, 17, 18, 19, 20, 21, 22, 23, 24, 25, 26, 27, 28, 29, 30, 31, 32, 33, 34, 35, 36], [0, 1, 2, 3, 4, 5, 6, 7, 8, 9, 10, 11, 12, 13, 14, 15, 16, 17, 18, 19, 20, 21, 22, 23, 24, 25, 26, 27, 28, 29, 30, 31, 32, 33, 34, 35, 36, 37], [0, 1, 2, 3, 4, 5, 6, 7, 8, 9, 10, 11, 12, 13, 14, 15, 16, 17, 18, 19, 20, 21, 22, 23, 24, 25, 26, 27, 28, 29, 30, 31, 32, 33, 34, 35, 36, 37], [0, 1, 2, 3, 4, 5, 6, 7, 8, 9, 10, 11, 12, 13, 14, 15, 16, 17, 18, 19, 20, 21, 22, 23, 24, 25, 26, 27, 28, 29, 30, 31, 32, 33, 34, 35, 36, 37], [0, 1, 2, 3, 4, 5, 6, 7, 8, 9, 10, 11, 12, 13, 14, 15, 16, 17, 18, 19, 20, 21, 22, 23, 24, 25, 26, 27, 28, 29, 30, 31, 32, 33, 34, 35, 36, 37], [0, 1, 2, 3, 4, 5, 6, 7, 8, 9, 10, 11, 12, 13, 14, 15, 16, 17, 18, 19, 20, 21, 22, 23, 24, 25, 26, 27, 28, 29, 30, 31, 32, 33, 34, 35, 36, 37, 39, 40, 41], [0, 1, 2, 3, 4, 5, 6, 7, 8, 9, 10, 11, 12, 13, 14, 15, 16, 17, 18, 19, 20, 21, 22, 23, 24, 25, 26, 27, 28, 29, 30, 31, 32, 33, 34, 35, 36, 37], [0, 1, 2, 3, 4, 5, 6, 7, 8, 9, 10, 11, 12, 13, 14, 15, 16, 17, 18, 19, 20, 21, 22, 23, 24, 25, 26, 27, 28, 29, 30, 31, 32, 33, 34, 35, 36, 37, 38, 39, 40, 41, 42, 43], [0, 1, 2, 3, 4, 5, 6, 7, 8, 9, 10, 11, 12, 13, 14, 15, 16, 17, 18, 19, 20, 21, 22, 23, 24, 25, 26, 27, 28, 29, 30, 31, 32, 33, 34, 35, 36, 37], [0, 1, 2, 3, 4, 5, 6, 7, 8, 9, 10, 11, 12, 13, 14, 15, 16, 17, 18, 19, 20, 21, 22, 23, 24, 25, 26, 27, 28, 29, 30, 31, 32, 33, 34, 35, 36, 37], [0, 1, 2, 3, 4, 5, 6, 7, 8, 9, 10, 11, 12, 13, 14, 15, 16, 17, 18, 19, 20, 21, 22, 23, 24, 25, 26, 27, 28, 29, 30, 31, 32, 33, 34, 35, 36, 37], [0, 1, 2, 3, 4, 5, 6, 7, 8, 9, 10, 11, 12, 13, 14, 15, 16, 17, 18, 19, 20, 21, 22, 23, 24, 25, 26, 27, 28, 29, 30, 31, 32, 33, 34, 35, 36, 37], [0, 1, 2, 3, 4, 5, 6, 7, 8, 9, 10, 11, 12, 13, 14, 15, 16, 17, 18, 19, 20, 21, 22, 23, 24, 25, 26, 27, 28, 29, 30, 31, 32, 33, 34, 35, 36, 37], [0, 1, 2, 3, 4, 5, 6, 7, 8, 9, 10, 11, 12, 13, 14, 15, 16, 17, 18, 19, 20, 21, 22, 23, 24, 25, 26, 27, 28, 29, 30, 31, 32, 33, 34, 35, 36, 37, 38, 39, 40, 41, 42, 43, 44, 47, 48, 49], [0, 1, 2, 3, 4, 5, 6, 7, 8, 9, 10, 11, 12, 13, 14, 15, 16, 17, 18, 19, 20, 21, 22, 23, 24, 25, 26, 27, 28, 29, 30, 31, 32, 33, 34, 35, 36, 37, 38, 39, 40, 41, 42, 43, 44, 45, 46, 47, 48, 49, 50], [0, 1, 2, 3, 4, 5, 6, 7, 8, 9, 10, 11, 12, 13, 14, 15, 16, 17, 18, 19, 20, 21, 22, 23, 24, 25, 26, 27, 28, 29, 30, 31, 32, 33, 34, 35, 36, 37, 38, 39, 40, 41, 42, 43, 44, 45, 46, 47, 48, 49, 50, 51], [0, 1, 2, 3, 4, 5, 6, 7, 8, 9, 10, 11, 12, 13, 14, 15, 16, 17, 18, 19, 20, 21, 22, 23, 24, 25, 26, 27, 28, 29, 30, 31, 32, 33, 34, 35, 36, 37, 38, 39, 40, 41, 42, 43, 44, 45, 46, 47, 48, 49, 50, 51, 52]] [] 127 [] (List.nil_sublist _) mixed rfl (by decide) ?_
  refine RW.pure rfl rfl (fun _ => rfl) (fun V hV => det_move) (fun _ _ _ => rfl) ?_
  dsimp only [put, List.set, ev, nth, List.nil_append, List.cons_append, md, Nat.reducePow, Nat.reduceAdd, Nat.reduceMul]
  refine RW.det [] rfl rfl rfl rfl (fun _ => rfl) (fun V hV => Det.rel (det_loadWA 0 Try.underlying22 rfl i22 rfl rfl)) (fun _ _ _ => rfl) ?_
  dsimp only [put, List.set, ev, nth, List.nil_append, List.cons_append, md, Nat.reducePow, Nat.reduceAdd, Nat.reduceMul]
  refine RW.det [] rfl rfl rfl rfl (fun _ => rfl) (fun V hV => Det.rel (det_loadWA 1 Try.underlying22 rfl i22 rfl rfl)) (fun _ _ _ => rfl) ?_
  dsimp only [put, List.set, ev, nth, List.nil_append, List.cons_append, md, Nat.reducePow, Nat.reduceAdd, Nat.reduceMul]
  refine RW.det [] rfl rfl rfl rfl (fun _ => rfl) (fun V hV => Rel_call rfl Try.call35 (fun w hw => add_spec A N hA hN w)) (fun _ _ _ => rfl) ?_
  dsimp only [put, List.set, ev, nth, List.nil_append, List.cons_append, md, Nat.reducePow, Nat.reduceAdd, Nat.reduceMul]
  refine RW.pure rfl rfl (fun _ => rfl) (fun V hV => det_move) (fun _ _ _ => rfl) ?_
  dsimp only [put, List.set, ev, nth, List.nil_append, List.cons_append, md, Nat.reducePow, Nat.reduceAdd, Nat.reduceMul]
  refine RW.det [] rfl rfl rfl rfl (fun _ => rfl) (fun V hV => Det.rel (det_loadWA 1 Try.underlying22 rfl i22 rfl rfl)) (fun _ _ _ => rfl) ?_
  dsimp only [put, List.set, ev, nth, List.nil_append, List.cons_append, md, Nat.reducePow, Nat.reduceAdd, Nat.reduceMul]
  refine RW.det [] rfl rfl rfl rfl (fun _ => rfl) (fun V hV => Det.rel (det_loadWA 0 Try.underlying22 rfl i22 rfl rfl)) (fun _ _ _ => rfl) ?_
  dsimp only [put, List.set, ev, nth, List.nil_append, List.cons_append, md, Nat.reducePow, Nat.reduceAdd, Nat.reduceMul]
  refine RW.det [] rfl rfl rfl rfl (fun _ => rfl) (fun V hV => Rel_call rfl Try.call35 (fun w hw => add_spec N A hN hA w)) (fun _ _ _ => rfl) ?_
  dsimp only [put, List.set, ev, nth, List.nil_append, List.cons_append, md, Nat.reducePow, Nat.reduceAdd, Nat.reduceMul]
  refine RW.pure rfl rfl (fun _ => rfl) (fun V hV => Det.bv false (det_neqA Try.underlying22 Try.sizeOf5 Try.isAgg5 Try.underlying5 Try.eqGuardType22 rfl rfl) (neqA_same fun i _ => by rw [Nat.add_comm])) (fun _ _ _ => rfl) ?_
  dsimp only [put, List.set, ev, nth, List.nil_append, List.cons_append, md, Nat.reducePow, Nat.reduceAdd, Nat.reduceMul]
  refine RW.pure rfl rfl (fun _ => rfl) (fun V hV => det_move) (fun _ _ _ => rfl) ?_
  dsimp only [put, List.set, ev, nth, List.nil_append, List.cons_append, md, Nat.reducePow, Nat.reduceAdd, Nat.reduceMul]
  refine RW.pure rfl rfl (fun _ => rfl) (fun V hV => det_move) (fun _ _ _ => rfl) ?_
  dsimp only [put, List.set, ev, nth, List.nil_append, List.cons_append, md, Nat.reducePow, Nat.reduceAdd, Nat.reduceMul]
  refine RW.det [] rfl rfl rfl rfl (fun _ => rfl) (fun V hV => Det.rel (det_loadWA 0 Try.underlying22 rfl i22 rfl rfl)) (fun _ _ _ => rfl) ?_
  dsimp only [put, List.set, ev, nth, List.nil_append, List.cons_append, md, Nat.reducePow, Nat.reduceAdd, Nat.reduceMul]
  refine RW.det [] rfl rfl rfl rfl (fun _ => rfl) (fun V hV => Det.rel (det_loadWA 1 Try.underlying22 rfl i22 rfl rfl)) (fun _ _ _ => rfl) ?_
  dsimp only [put, List.set, ev, nth, List.nil_append, List.cons_append, md, Nat.reducePow, Nat.reduceAdd, Nat.reduceMul]
  refine RW.det [] rfl rfl rfl rfl (fun _ => rfl) (fun V hV => Rel_call rfl Try.call37 (fun w hw => mul_spec A N hA hN w)) (fun _ _ _ => rfl) ?_
  dsimp only [put, List.set, ev, nth, List.nil_append, List.cons_append, md, Nat.reducePow, Nat.reduceAdd, Nat.reduceMul]
  refine RW.pure rfl rfl (fun _ => rfl) (fun V hV => det_move) (fun _ _ _ => rfl) ?_
  dsimp only [put, List.set, ev, nth, List.nil_append, List.cons_append, md, Nat.reducePow, Nat.reduceAdd, Nat.reduceMul]
  refine RW.det [] rfl rfl rfl rfl (fun _ => rfl) (fun V hV => Det.rel (det_loadWA 1 Try.underlying22 rfl i22 rfl rfl)) (fun _ _ _ => rfl) ?_
  dsimp only [put, List.set, ev, nth, List.nil_append, List.cons_append, md, Nat.reducePow, Nat.reduceAdd, Nat.reduceMul]
  refine RW.det [] rfl rfl rfl rfl (fun _ => rfl) (fun V hV => Det.rel (det_loadWA 0 Try.underlying22 rfl i22 rfl rfl)) (fun _ _ _ => rfl) ?_
  dsimp only [put, List.set, ev, nth, List.nil_append, List.cons_append, md, Nat.reducePow, Nat.reduceAdd, Nat.reduceMul]
  refine RW.det [] rfl rfl rfl rfl (fun _ => rfl) (fun V hV => Rel_call rfl Try.call37 (fun w hw => mul_spec N A hN hA w)) (fun _ _ _ => rfl) ?_
  dsimp only [put, List.set, ev, nth, List.nil_append, List.cons_append, md, Nat.reducePow, Nat.reduceAdd, Nat.reduceMul]
  refine RW.pure rfl rfl (fun _ => rfl) (fun V hV => Det.bv false (det_neqA Try.underlying22 Try.sizeOf5 Try.isAgg5 Try.underlying5 Try.eqGuardType22 rfl rfl) (neqA_same fun i _ => by rw [Nat.mul_comm])) (fun _ _ _ => rfl) ?_
  dsimp only [put, List.set, ev, nth, List.nil_append, List.cons_append, md, Nat.reducePow, Nat.reduceAdd, Nat.reduceMul]
  refine RW.pure rfl rfl (fun _ => rfl) (fun V hV => det_pick_false rfl) (fun _ _ _ => rfl) ?_
  dsimp only [put, List.set, ev, nth, List.nil_append, List.cons_append, md, Nat.reducePow, Nat.reduceAdd, Nat.reduceMul]
  refine RW.pure rfl rfl (fun _ => rfl) (fun V hV => det_move) (fun _ _ _ => rfl) ?_
  dsimp only [put, List.set, ev, nth, List.nil_append, List.cons_append, md, Nat.reducePow, Nat.reduceAdd, Nat.reduceMul]
  refine RW.pure rfl rfl (fun _ => rfl) (fun V hV => det_move) (fun _ _ _ => rfl) ?_
  dsimp only [put, List.set, ev, nth, List.nil_append, List.cons_append, md, Nat.reducePow, Nat.reduceAdd, Nat.reduceMul]
  refine RW.pure rfl rfl (fun _ => rfl) (fun V hV => det_move) (fun _ _ _ => rfl) ?_
  dsimp only [put, List.set, ev, nth, List.nil_append, List.cons_append, md, Nat.reducePow, Nat.reduceAdd, Nat.reduceMul]
  refine RW.det [] rfl rfl rfl rfl (fun _ => rfl) (fun V hV => Det.rel (det_loadWA 0 Try.underlying22 rfl i22 rfl rfl)) (fun _ _ _ => rfl) ?_
  dsimp only [put, List.set, ev, nth, List.nil_append, List.cons_append, md, Nat.reducePow, Nat.reduceAdd, Nat.reduceMul]
  refine RW.det [] rfl rfl rfl rfl (fun _ => rfl) (fun V hV => Det.rel (det_loadWA 1 Try.underlying22 rfl i22 rfl rfl)) (fun _ _ _ => rfl) ?_
  dsimp only [put, List.set, ev, nth, List.nil_append, List.cons_append, md, Nat.reducePow, Nat.reduceAdd, Nat.reduceMul]
  refine RW.det [] rfl rfl rfl rfl (fun _ => rfl) (fun V hV => Rel_call rfl Try.call35 (fun w hw => add_spec A N hA hN w)) (fun _ _ _ => rfl) ?_
  dsimp only [put, List.set, ev, nth, List.nil_append, List.cons_append, md, Nat.reducePow, Nat.reduceAdd, Nat.reduceMul]
  refine RW.det [] rfl rfl rfl rfl (fun _ => rfl) (fun V hV => Det.rel (det_loadWA 2 Try.underlying22 rfl i22 rfl rfl)) (fun _ _ _ => rfl) ?_
  dsimp only [put, List.set, ev, nth, List.nil_append, List.cons_append, md, Nat.reducePow, Nat.reduceAdd, Nat.reduceMul]
  refine RW.det [] rfl rfl rfl rfl (fun _ => rfl) (fun V hV => Rel_call rfl Try.call35 (fun w hw => add_spec _ C (Nat.lt_of_lt_of_le (Nat.mod_lt _ Qn_pos) (by decide)) hC w)) (fun _ _ _ => rfl) ?_
  dsimp only [put, List.set, ev, nth, List.nil_append, List.cons_append, md, Nat.reducePow, Nat.reduceAdd, Nat.reduceMul]
  refine RW.pure rfl rfl (fun _ => rfl) (fun V hV => det_move) (fun _ _ _ => rfl) ?_
  dsimp only [put, List.set, ev, nth, List.nil_append, List.cons_append, md, Nat.reducePow, Nat.reduceAdd, Nat.reduceMul]
  refine RW.det [] rfl rfl rfl rfl (fun _ => rfl) (fun V hV => Det.rel (det_loadWA 0 Try.underlying22 rfl i22 rfl rfl)) (fun _ _ _ => rfl) ?_
  dsimp only [put, List.set, ev, nth, List.nil_append, List.cons_append, md, Nat.reducePow, Nat.reduceAdd, Nat.reduceMul]
  refine RW.pure rfl rfl (fun _ => rfl) (fun V hV => det_move) (fun _ _ _ => rfl) ?_
  dsimp only [put, List.set, ev, nth, List.nil_append, List.cons_append, md, Nat.reducePow, Nat.reduceAdd, Nat.reduceMul]
  refine RW.det [] rfl rfl rfl rfl (fun _ => rfl) (fun V hV => Det.rel (det_loadWA 1 Try.underlying22 rfl i22 rfl rfl)) (fun _ _ _ => rfl) ?_
  dsimp only [put, List.set, ev, nth, List.nil_append, List.cons_append, md, Nat.reducePow, Nat.reduceAdd, Nat.reduceMul]
  refine RW.det [] rfl rfl rfl rfl (fun _ => rfl) (fun V hV => Det.rel (det_loadWA 2 Try.underlying22 rfl i22 rfl rfl)) (fun _ _ _ => rfl) ?_
  dsimp only [put, List.set, ev, nth, List.nil_append, List.cons_append, md, Nat.reducePow, Nat.reduceAdd, Nat.reduceMul]
  refine RW.det [] rfl rfl rfl rfl (fun _ => rfl) (fun V hV => Rel_call rfl Try.call35 (fun w hw => add_spec N C hN hC w)) (fun _ _ _ => rfl) ?_
  dsimp only [put, List.set, ev, nth, List.nil_append, List.cons_append, md, Nat.reducePow, Nat.reduceAdd, Nat.reduceMul]
  refine RW.det [] rfl rfl rfl rfl (fun _ => rfl) (fun V hV => Rel_call rfl Try.call35 (fun w hw => add_spec A _ hA (Nat.lt_of_lt_of_le (Nat.mod_lt _ Qn_pos) (by decide)) w)) (fun _ _ _ => rfl) ?_
  dsimp only [put, List.set, ev, nth, List.nil_append, List.cons_append, md, Nat.reducePow, Nat.reduceAdd, Nat.reduceMul]
  refine RW.pure rfl rfl (fun _ => rfl) (fun V hV => Det.bv false (det_neqA Try.underlying22 Try.sizeOf5 Try.isAgg5 Try.underlying5 Try.eqGuardType22 rfl rfl) (neqA_same fun i _ => by rw [Nat.mod_add_mod, Nat.add_mod_mod, Nat.add_assoc])) (fun _ _ _ => rfl) ?_
  dsimp only [put, List.set, ev, nth, List.nil_append, List.cons_append, md, Nat.reducePow, Nat.reduceAdd, Nat.reduceMul]
  refine RW.pure rfl rfl (fun _ => rfl) (fun V hV => det_pick_false rfl) (fun _ _ _ => rfl) ?_
  dsimp only [put, List.set, ev, nth, List.nil_append, List.cons_append, md, Nat.reducePow, Nat.reduceAdd, Nat.reduceMul]
  refine RW.pure rfl rfl (fun _ => rfl) (fun V hV => det_move) (fun _ _ _ => rfl) ?_
  dsimp only [put, List.set, ev, nth, List.nil_append, List.cons_append, md, Nat.reducePow, Nat.reduceAdd, Nat.reduceMul]
  refine RW.pure rfl rfl (fun _ => rfl) (fun V hV => det_move) (fun _ _ _ => rfl) ?_
  dsimp only [put, List.set, ev, nth, List.nil_append, List.cons_append, md, Nat.reducePow, Nat.reduceAdd, Nat.reduceMul]
  refine RW.pure rfl rfl (fun _ => rfl) (fun V hV => det_move) (fun _ _ _ => rfl) ?_
  dsimp only [put, List.set, ev, nth, List.nil_append, List.cons_append, md, Nat.reducePow, Nat.reduceAdd, Nat.reduceMul]
  refine RW.det [] rfl rfl rfl rfl (fun _ => rfl) (fun V hV => Det.rel (det_loadWA 0 Try.underlying22 rfl i22 rfl rfl)) (fun _ _ _ => rfl) ?_
  dsimp only [put, List.set, ev, nth, List.nil_append, List.cons_append, md, Nat.reducePow, Nat.reduceAdd, Nat.reduceMul]
  refine RW.det [] rfl rfl rfl rfl (fun _ => rfl) (fun V hV => Det.rel (det_loadWA 1 Try.underlying22 rfl i22 rfl rfl)) (fun _ _ _ => rfl) ?_
  dsimp only [put, List.set, ev, nth, List.nil_append, List.cons_append, md, Nat.reducePow, Nat.reduceAdd, Nat.reduceMul]
  refine RW.det [] rfl rfl rfl rfl (fun _ => rfl) (fun V hV => Rel_call rfl Try.call37 (fun w hw => mul_spec A N hA hN w)) (fun _ _ _ => rfl) ?_
  dsimp only [put, List.set, ev, nth, List.nil_append, List.cons_append, md, Nat.reducePow, Nat.reduceAdd, Nat.reduceMul]
  refine RW.det [] rfl rfl rfl rfl (fun _ => rfl) (fun V hV => Det.rel (det_loadWA 2 Try.underlying22 rfl i22 rfl rfl)) (fun _ _ _ => rfl) ?_
  dsimp only [put, List.set, ev, nth, List.nil_append, List.cons_append, md, Nat.reducePow, Nat.reduceAdd, Nat.reduceMul]
  refine RW.det [] rfl rfl rfl rfl (fun _ => rfl) (fun V hV => Rel_call rfl Try.call37 (fun w hw => mul_spec _ C (Nat.lt_of_lt_of_le (Nat.mod_lt _ Qn_pos) (by decide)) hC w)) (fun _ _ _ => rfl) ?_
  dsimp only [put, List.set, ev, nth, List.nil_append, List.cons_append, md, Nat.reducePow, Nat.reduceAdd, Nat.reduceMul]
  refine RW.pure rfl rfl (fun _ => rfl) (fun V hV => det_move) (fun _ _ _ => rfl) ?_
  dsimp only [put, List.set, ev, nth, List.nil_append, List.cons_append, md, Nat.reducePow, Nat.reduceAdd, Nat.reduceMul]
  refine RW.det [] rfl rfl rfl rfl (fun _ => rfl) (fun V hV => Det.rel (det_loadWA 0 Try.underlying22 rfl i22 rfl rfl)) (fun _ _ _ => rfl) ?_
  dsimp only [put, List.set, ev, nth, List.nil_append, List.cons_append, md, Nat.reducePow, Nat.reduceAdd, Nat.reduceMul]
  refine RW.pure rfl rfl (fun _ => rfl) (fun V hV => det_move) (fun _ _ _ => rfl) ?_
  dsimp only [put, List.set, ev, nth, List.nil_append, List.cons_append, md, Nat.reducePow, Nat.reduceAdd, Nat.reduceMul]
  refine RW.det [] rfl rfl rfl rfl (fun _ => rfl) (fun V hV => Det.rel (det_loadWA 1 Try.underlying22 rfl i22 rfl rfl)) (fun _ _ _ => rfl) ?_
  dsimp only [put, List.set, ev, nth, List.nil_append, List.cons_append, md, Nat.reducePow, Nat.reduceAdd, Nat.reduceMul]
  refine RW.det [] rfl rfl rfl rfl (fun _ => rfl) (fun V hV => Det.rel (det_loadWA 2 Try.underlying22 rfl i22 rfl rfl)) (fun _ _ _ => rfl) ?_
  dsimp only [put, List.set, ev, nth, List.nil_append, List.cons_append, md, Nat.reducePow, Nat.reduceAdd, Nat.reduceMul]
  refine RW.det [] rfl rfl rfl rfl (fun _ => rfl) (fun V hV => Rel_call rfl Try.call37 (fun w hw => mul_spec N C hN hC w)) (fun _ _ _ => rfl) ?_
  dsimp only [put, List.set, ev, nth, List.nil_append, List.cons_append, md, Nat.reducePow, Nat.reduceAdd, Nat.reduceMul]
  refine RW.det [] rfl rfl rfl rfl (fun _ => rfl) (fun V hV => Rel_call rfl Try.call37 (fun w hw => mul_spec A _ hA (Nat.lt_of_lt_of_le (Nat.mod_lt _ Qn_pos) (by decide)) w)) (fun _ _ _ => rfl) ?_
  dsimp only [put, List.set, ev, nth, List.nil_append, List.cons_append, md, Nat.reducePow, Nat.reduceAdd, Nat.reduceMul]
  refine RW.pure rfl rfl (fun _ => rfl) (fun V hV => Det.bv false (det_neqA Try.underlying22 Try.sizeOf5 Try.isAgg5 Try.underlying5 Try.eqGuardType22 rfl rfl) (neqA_same fun i _ => by rw [Nat.mod_mul_mod, Nat.mul_mod_mod, Nat.mul_assoc])) (fun _ _ _ => rfl) ?_
  dsimp only [put, List.set, ev, nth, List.nil_append, List.cons_append, md, Nat.reducePow, Nat.reduceAdd, Nat.reduceMul]
  refine RW.pure rfl rfl (fun _ => rfl) (fun V hV => det_pick_false rfl) (fun _ _ _ => rfl) ?_
  dsimp only [put, List.set, ev, nth, List.nil_append, List.cons_append, md, Nat.reducePow, Nat.reduceAdd, Nat.reduceMul]
  refine RW.done (fun V => _ ++ flat [] V) rfl rfl (fun _ => rfl) (fun V hV => ?_)
  try dsimp only [put, blk, flat_nil, List.append_nil, List.append, List.eraseIdx, List.set, ev, nth, List.nil_append, List.cons_append, md, Nat.reducePow, Nat.reduceAdd, Nat.reduceMul]
  refine WC_cond_false rfl ?_
  refine WC_skip ?_
  refine WC_seq ?_
  refine WC_region ?_
  refine WL_det rfl (det_sliceA Try.underlying22 Try.sizeOf5 rfl) ?_
  dsimp only [put, List.set, ev, nth, List.nil_append, List.cons_append, md, Nat.reducePow, Nat.reduceAdd, Nat.reduceMul]
  refine WL_rel rfl (Rel_call rfl Try.call23 (fun w hw => of_small (some ⟨_, 0, none⟩) 32 32 _ 0 (byt A) (fun i _ => byt_lt A i) (by decide) (fun _ => rfl) w (hw.cellA 0 rfl))) ?_
  rintro _ _ ⟨rfl, rfl⟩
  dsimp only [put, List.append_nil, List.set, ev, nth, List.nil_append, List.cons_append, md, Nat.reducePow, Nat.reduceAdd, Nat.reduceMul]
  rw [lev_byt32 A hA]
  refine WL_det rfl (det_move) ?_
  dsimp only [put, List.set, ev, nth, List.nil_append, List.cons_append, md, Nat.reducePow, Nat.reduceAdd, Nat.reduceMul]
  refine WL_det rfl (det_extract rfl rfl) ?_
  dsimp only [put, List.set, ev, nth, List.nil_append, List.cons_append, md, Nat.reducePow, Nat.reduceAdd, Nat.reduceMul]
  refine WL_det rfl (det_extract rfl rfl) ?_
  dsimp only [put, List.set, ev, nth, List.nil_append, List.cons_append, md, Nat.reducePow, Nat.reduceAdd, Nat.reduceMul]
  refine WL_rel rfl (rel_alloc z22 rfl) ?_
  rintro _ _ ⟨b3, rfl, rfl⟩
  dsimp only [put, List.set, ev, nth, List.nil_append, List.cons_append, md, Nat.reducePow, Nat.reduceAdd, Nat.reduceMul]
  refine WL_chg rfl (chg_storeWA 3 Try.sizeOf22 rfl rfl rfl) ?_
  rintro _ _ rfl
  dsimp only [put, List.set, ev, nth, List.nil_append, List.cons_append, md, Nat.reducePow, Nat.reduceAdd, Nat.reduceMul]
  refine WL_det rfl (det_assign) ?_
  dsimp only [put, List.set, ev, nth, List.nil_append, List.cons_append, md, Nat.reducePow, Nat.reduceAdd, Nat.reduceMul]
  refine WL_nil ?_
  refine WC_seq ?_
  refine WC_draw [[], [], [], [], [], [2, 3, 4], [0, 1, 2, 3, 4, 5], [], [], [], [], [0, 1, 2, 3, 4, 5, 6, 8, 9, 10], [], [], [], [0, 1, 2, 3, 4, 5, 6, 8, 9, 10, 11, 12, 13, 14], [0, 1, 2, 3, 4, 5, 6, 7, 8, 9, 10, 11, 12, 13, 14, 15], [0, 1, 2, 3, 4, 5, 6, 7, 8, 9, 10, 11, 12, 13, 14, 15, 16], [0, 1, 2, 3, 4, 5, 6, 7, 8, 9, 10, 11, 12, 13, 14, 15, 16, 17], [0, 1, 2, 3, 4, 5, 6, 7, 8, 9, 10, 11, 12, 13, 14, 15, 16, 17, 18], [0, 1, 2, 3, 4, 5, 6, 7, 8, 9, 10, 11, 12, 13, 14, 15, 16, 17, 18], [0, 1, 2, 3, 4, 5, 6, 7, 8, 9, 10, 11, 12, 13, 14, 15, 16, 17, 18], [0, 1, 2, 3, 4, 5, 6, 7, 8, 9, 10, 11, 12, 13, 14, 15, 16, 17, 18, 21], [0, 1, 2, 3, 4, 5, 6, 7, 8, 9, 10, 11, 12, 13, 14, 15, 16, 17, 18, 19, 20, 21, 22], [0, 1, 2, 3, 4, 5, 6, 7, 8, 9, 10, 11, 12, 13, 14, 15, 16, 17, 18], [0, 1, 2, 3, 4, 5, 6, 7, 8, 9, 10, 11, 12, 13, 14, 15, 16, 17, 18, 19, 20, 21, 22, 23, 24], [0, 1, 2, 3, 4, 5, 6, 7, 8, 9, 10, 11, 12, 13, 14, 15, 16, 17, 18, 19, 20, 21, 22, 23, 24, 25], [0, 1, 2, 3, 4, 5, 6, 7, 8, 9, 10, 11, 12, 13, 14, 15, 16, 17, 18, 19, 20, 21, 22, 23, 24, 25, 26], [0, 1, 2, 3, 4, 5, 6, 7, 8, 9, 10, 11, 12, 13, 14, 15, 16, 17, 18, 19, 20, 21, 22, 23, 24, 25, 26, 27], [0, 1, 2, 3, 4, 5, 6, 7, 8, 9, 10, 11, 12, 13, 14, 15, 16, 17, 18, 19, 20, 21, 22, 23, 24, 25, 26, 27, 28], [0, 1, 2, 3, 4, 5, 6, 7, 8, 9, 10, 11, 12, 13, 14, 15, 16, 17, 18, 19, 20, 21, 22, 23, 24, 25, 26, 27, 28, 29], [0, 1, 2, 3, 4, 5, 6, 7, 8, 9, 10, 11, 12, 13, 14, 15, 16, 17, 18, 19, 20, 21, 22, 23, 24, 25, 26, 27, 28, 29, 30], [0, 1, 2, 3, 4, 5, 6, 7, 8, 9, 10, 11, 12, 13, 14, 15, 16, 17, 18, 19, 20, 21, 22, 23, 24, 25, 26, 27, 28, 29, 30, 31], [0, 1, 2, 3, 4, 5, 6, 7, 8, 9, 10, 11, 12, 13, 14, 15, 16, 17, 18, 19, 20, 21, 22, 23, 24, 25, 26, 27, 28, 29, 30, 31], [0, 1, 2, 3, 4, 5, 6, 7, 8, 9, 10, 11, 12, 13, 14, 15, 16, 17, 18, 19, 20, 21, 22, 23, 24, 25, 26, 27, 28, 29, 30, 31], [0, 1, 2, 3, 4, 5, 6, 7, 8, 9, 10, 11, 12, 13, 14, 15, 16, 17, 18, 19, 20, 21, 22, 23, 24, 25, 26, 27, 28, 29, 30, 31, 32, 33, 34], [0, 1, 2, 3, 4, 5, 6, 7, 8, 9, 10, 11, 12, 13, 14, 15, 16, 17, 18, 19, 20, 21, 22, 23, 24, 25, 26, 27, 28, 29, 30, 31], [0, 1, 2, 3, 4, 5, 6, 7, 8, 9, 10, 11, 12, 13, 14, 15, 16, 17, 18, 19, 20, 21, 22, 23, 24, 25, 26, 27, 28, 29, 30, 31, 32, 33, 34, 35, 36], [0, 1, 2, 3, 4, 5, 6, 7, 8, 9, 10, 11, 12, 13, 14, 15, 16, 17, 18, 19, 20, 21, 22, 23, 24, 25, 26, 27, 28, 29, 30, 31, 32, 33, 34, 35, 36, 37], [0, 1, 2, 3, 4, 5, 6, 7, 8, 9, 10, 11, 12, 13, 14, 15, 16, 17, 18, 19, 20, 21, 22, 23, 24, 25, 26, 27, 28, 29, 30, 31, 32, 33, 34, 35, 36, 37, 38], [0, 1, 2, 3, 4, 5, 6, 7, 8, 9, 10, 11, 12, 13, 14, 15, 16, 17, 18, 19, 20, 21, 22, 23, 24, 25, 26, 27, 28, 29, 30, 31, 32, 33, 34, 35, 36, 37, 38, 39], [0, 1, 2, 3, 4, 5, 6, 7, 8, 9, 10, 11, 12, 13, 14, 15, 16, 17, 18, 19, 20, 21, 22, 23, 24, 25, 26, 27, 28, 29, 30, 31, 32, 33, 34, 35, 36, 37, 38, 39], [0, 1, 2, 3, 4, 5, 6, 7, 8, 9, 10, 11, 12, 13, 14, 15, 16, 17, 18, 19, 20, 21, 22, 23, 24, 25, 26, 27, 28, 29, 30, 31, 32, 33, 34, 35, 36, 37, 38, 39], [0, 1, 2, 3, 4, 5, 6, 7, 8, 9, 10, 11, 12, 13, 14, 15, 16, 17, 18, 19, 20, 21, 22, 23, 24, 25, 26, 27, 28, 29, 30, 31, 32, 33, 34, 35, 36, 37, 38, 39, 40, 41, 42], [0, 1, 2, 3, 4, 5, 6, 7, 8, 9, 10, 11, 12, 13, 14, 15, 16, 17, 18, 19, 20, 21, 22, 23, 24, 25, 26, 27, 28, 29, 30, 31, 32, 33, 34, 35, 36, 37, 38, 39], [0, 1, 2, 3, 4, 5, 6, 7, 8, 9, 10, 11, 12, 13, 14, 15, 16, 17, 18, 19, 20, 21, 22, 23, 24, 25, 26, 27, 28, 29, 30, 31, 32, 33, 34, 35, 36, 37, 38, 39, 40, 41, 42, 43, 44], [0, 1, 2, 3, 4, 5, 6, 7, 8, 9, 10, 11, 12, 13, 14, 15, 16, 17, 18, 19, 20, 21, 22, 23, 24, 25, 26, 27, 28, 29, 30, 31, 32, 33, 34, 35, 36, 37, 38, 39, 40, 41, 42, 43, 44, 45], [0, 1, 2, 3, 4, 5, 6, 7, 8, 9, 10, 11, 12, 13, 14, 15, 16, 17, 18, 19, 20, 21, 22, 23, 24, 25, 26, 27, 28, 29, 30, 31, 32, 33, 34, 35, 36, 37, 38, 39, 40, 41, 42, 43, 44, 45, 46], [0, 1, 2, 3, 4, 5, 6, 7, 8, 9, 10, 11, 12, 13, 14, 15, 16, 17, 18, 19, 20, 21, 22, 23, 24, 25, 26, 27, 28, 29, 30, 31, 32, 33, 34, 35, 36, 37, 38, 39, 40, 41, 42, 43, 44, 45, 46, 47], [0, 1, 2, 3, 4, 5, 6, 7, 8, 9, 10, 11, 12, 13, 14, 15, 16, 17, 18, 19, 20, 21, 22, 23, 24, 25, 26, 27, 28, 29, 30, 31, 32, 33, 34, 35, 36, 37, 38, 39, 40, 41, 42, 43, 44, 45, 46, 47], [0, 1, 2, 3, 4, 5, 6, 7, 8, 9, 10, 11, 12, 13, 14, 15, 16, 17, 18, 19, 20, 21, 22, 23, 24, 25, 26, 27, 28, 29, 30, 31, 32, 33, 34, 35, 36, 37, 38, 39, 40, 41, 42, 43, 44, 45, 46, 47], [0, 1, 2, 3, 4, 5, 6, 7, 8, 9, 10, 11, 12, 13, 14, 15, 16, 17, 18, 19, 20, 21, 22, 23, 24, 25, 26, 27, 28, 29, 30, 31, 32, 33, 34, 35, 36, 37, 38, 39, 40, 41, 42, 43, 44, 45, 46, 47, 48, 49, 50], [0, 1, 2, 3, 4, 5, 6, 7, 8, 9, 10, 11, 12, 13, 14, 15, 16, 17, 18, 19, 20, 21, 22, 23, 24, 25, 26, 27, 28, 29, 30, 31, 32, 33, 34, 35, 36, 37, 38, 39, 40, 41, 42, 43, 44, 45, 46, 47], [0, 1, 2, 3, 4, 5, 6, 7, 8, 9, 10, 11, 12, 13, 14, 15, 16, 17, 18, 19, 20, 21, 22, 23, 24, 25, 26, 27, 28, 29, 30, 31, 32, 33, 34, 35, 36, 37, 38, 39, 40, 41, 42, 43, 44, 45, 46, 47, 48, 49, 50, 51, 52], [0, 1, 2, 3, 4, 5, 6, 7, 8, 9, 10, 11, 12, 13, 14, 15, 16, 17, 18, 19, 20, 21, 22, 23, 24, 25, 26, 27, 28, 29, 30, 31, 32, 33, 34, 35, 36, 37, 38, 39, 40, 41, 42, 43, 44, 45, 46, 47, 48, 49, 50, 51, 52, 53], [0, 1, 2, 3, 4, 5, 6, 7, 8, 9, 10, 11, 12, 13, 14, 15, 16, 17, 18, 19, 20, 21, 22, 23, 24, 25, 26, 27, 28, 29, 30, 31, 32, 33, 34, 35, 36, 37, 38, 39, 40, 41, 42, 43, 44, 45, 46, 47, 48, 49, 50, 51, 52, 53, 54]] [] 127 [] (List.nil_sublist _) mixed rfl (by decide) ?_
  refine RW.pure rfl rfl (fun _ => rfl) (fun V hV => det_move) (fun _ _ _ => rfl) ?_
  dsimp only [put, List.set, ev, nth, List.nil_append, List.cons_append, md, Nat.reducePow, Nat.reduceAdd, Nat.reduceMul]
  refine RW.det [] rfl rfl rfl rfl (fun _ => rfl) (fun V hV => Det.rel (det_loadWA 0 Try.underlying22 rfl i22 rfl rfl)) (fun _ _ _ => rfl) ?_
  dsimp only [put, List.set, ev, nth, List.nil_append, List.cons_append, md, Nat.reducePow, Nat.reduceAdd, Nat.reduceMul]
  refine RW.pure rfl rfl (fun _ => rfl) (fun V hV => det_move) (fun _ _ _ => rfl) ?_
  dsimp only [put, List.set, ev, nth, List.nil_append, List.cons_append, md, Nat.reducePow, Nat.reduceAdd, Nat.reduceMul]
  refine RW.det [] rfl rfl rfl rfl (fun _ => rfl) (fun V hV => Det.rel (det_loadWA 1 Try.underlying22 rfl i22 rfl rfl)) (fun _ _ _ => rfl) ?_
  dsimp only [put, List.set, ev, nth, List.nil_append, List.cons_append, md, Nat.reducePow, Nat.reduceAdd, Nat.reduceMul]
  refine RW.det [] rfl rfl rfl rfl (fun _ => rfl) (fun V hV => Det.rel (det_loadWA 2 Try.underlying22 rfl i22 rfl rfl)) (fun _ _ _ => rfl) ?_
  dsimp only [put, List.set, ev, nth, List.nil_append, List.cons_append, md, Nat.reducePow, Nat.reduceAdd, Nat.reduceMul]
  refine RW.det [] rfl rfl rfl rfl (fun _ => rfl) (fun V hV => Rel_call rfl Try.call35 (fun w hw => add_spec N C hN hC w)) (fun _ _ _ => rfl) ?_
  dsimp only [put, List.set, ev, nth, List.nil_append, List.cons_append, md, Nat.reducePow, Nat.reduceAdd, Nat.reduceMul]
  refine RW.det [] rfl rfl rfl rfl (fun _ => rfl) (fun V hV => Rel_call rfl Try.call37 (fun w hw => mul_spec A _ hA (Nat.lt_of_lt_of_le (Nat.mod_lt _ Qn_pos) (by decide)) w)) (fun _ _ _ => rfl) ?_
  dsimp only [put, List.set, ev, nth, List.nil_append, List.cons_append, md, Nat.reducePow, Nat.reduceAdd, Nat.reduceMul]
  refine RW.pure rfl rfl (fun _ => rfl) (fun V hV => det_move) (fun _ _ _ => rfl) ?_
  dsimp only [put, List.set, ev, nth, List.nil_append, List.cons_append, md, Nat.reducePow, Nat.reduceAdd, Nat.reduceMul]
  refine RW.pure rfl rfl (fun _ => rfl) (fun V hV => det_move) (fun _ _ _ => rfl) ?_
  dsimp only [put, List.set, ev, nth, List.nil_append, List.cons_append, md, Nat.reducePow, Nat.reduceAdd, Nat.reduceMul]
  refine RW.det [] rfl rfl rfl rfl (fun _ => rfl) (fun V hV => Det.rel (det_loadWA 0 Try.underlying22 rfl i22 rfl rfl)) (fun _ _ _ => rfl) ?_
  dsimp only [put, List.set, ev, nth, List.nil_append, List.cons_append, md, Nat.reducePow, Nat.reduceAdd, Nat.reduceMul]
  refine RW.det [] rfl rfl rfl rfl (fun _ => rfl) (fun V hV => Det.rel (det_loadWA 1 Try.underlying22 rfl i22 rfl rfl)) (fun _ _ _ => rfl) ?_
  dsimp only [put, List.set, ev, nth, List.nil_append, List.cons_append, md, Nat.reducePow, Nat.reduceAdd, Nat.reduceMul]
  refine RW.det [] rfl rfl rfl rfl (fun _ => rfl) (fun V hV => Rel_call rfl Try.call37 (fun w hw => mul_spec A N hA hN w)) (fun _ _ _ => rfl) ?_
  dsimp only [put, List.set, ev, nth, List.nil_append, List.cons_append, md, Nat.reducePow, Nat.reduceAdd, Nat.reduceMul]
  refine RW.pure rfl rfl (fun _ => rfl) (fun V hV => det_move) (fun _ _ _ => rfl) ?_
  dsimp only [put, List.set, ev, nth, List.nil_append, List.cons_append, md, Nat.reducePow, Nat.reduceAdd, Nat.reduceMul]
  refine RW.det [] rfl rfl rfl rfl (fun _ => rfl) (fun V hV => Det.rel (det_loadWA 0 Try.underlying22 rfl i22 rfl rfl)) (fun _ _ _ => rfl) ?_
  dsimp only [put, List.set, ev, nth, List.nil_append, List.cons_append, md, Nat.reducePow, Nat.reduceAdd, Nat.reduceMul]
  refine RW.det [] rfl rfl rfl rfl (fun _ => rfl) (fun V hV => Det.rel (det_loadWA 2 Try.underlying22 rfl i22 rfl rfl)) (fun _ _ _ => rfl) ?_
  dsimp only [put, List.set, ev, nth, List.nil_append, List.cons_append, md, Nat.reducePow, Nat.reduceAdd, Nat.reduceMul]
  refine RW.det [] rfl rfl rfl rfl (fun _ => rfl) (fun V hV => Rel_call rfl Try.call37 (fun w hw => mul_spec A C hA hC w)) (fun _ _ _ => rfl) ?_
  dsimp only [put, List.set, ev, nth, List.nil_append, List.cons_append, md, Nat.reducePow, Nat.reduceAdd, Nat.reduceMul]
  refine RW.det [] rfl rfl rfl rfl (fun _ => rfl) (fun V hV => Rel_call rfl Try.call35 (fun w hw => add_spec _ _ (Nat.lt_of_lt_of_le (Nat.mod_lt _ Qn_pos) (by decide)) (Nat.lt_of_lt_of_le (Nat.mod_lt _ Qn_pos) (by decide)) w)) (fun _ _ _ => rfl) ?_
  dsimp only [put, List.set, ev, nth, List.nil_append, List.cons_append, md, Nat.reducePow, Nat.reduceAdd, Nat.reduceMul]
  refine RW.pure rfl rfl (fun _ => rfl) (fun V hV => Det.bv true (det_eqlA Try.underlying22 Try.sizeOf5 Try.isAgg5 Try.underlying5 Try.eqGuardType22 rfl rfl) (eqA_same fun i _ => by rw [Nat.mul_mod_mod, ← Nat.add_mod, Nat.mul_add])) (fun _ _ _ => rfl) ?_
  dsimp only [put, List.set, ev, nth, List.nil_append, List.cons_append, md, Nat.reducePow, Nat.reduceAdd, Nat.reduceMul]
  refine RW.pure rfl rfl (fun _ => rfl) (fun V hV => det_move) (fun _ _ _ => rfl) ?_
  dsimp only [put, List.set, ev, nth, List.nil_append, List.cons_append, md, Nat.reducePow, Nat.reduceAdd, Nat.reduceMul]
  refine RW.pure rfl rfl (fun _ => rfl) (fun V hV => det_move) (fun _ _ _ => rfl) ?_
  dsimp only [put, List.set, ev, nth, List.nil_append, List.cons_append, md, Nat.reducePow, Nat.reduceAdd, Nat.reduceMul]
  refine RW.det [] rfl rfl rfl rfl (fun _ => rfl) (fun V hV => Det.rel (det_loadWA 0 Try.underlying22 rfl i22 rfl rfl)) (fun _ _ _ => rfl) ?_
  dsimp only [put, List.set, ev, nth, List.nil_append, List.cons_append, md, Nat.reducePow, Nat.reduceAdd, Nat.reduceMul]
  refine RW.det [] rfl rfl rfl rfl (fun _ => rfl) (fun V hV => Det.rel (det_loadWA 0 Try.underlying22 rfl i22 rfl rfl)) (fun _ _ _ => rfl) ?_
  dsimp only [put, List.set, ev, nth, List.nil_append, List.cons_append, md, Nat.reducePow, Nat.reduceAdd, Nat.reduceMul]
  refine RW.det [] rfl rfl rfl rfl (fun _ => rfl) (fun V hV => Rel_call rfl Try.call34 (fun w hw => neg_spec A hA w)) (fun _ _ _ => rfl) ?_
  dsimp only [put, List.set, ev, nth, List.nil_append, List.cons_append, md, Nat.reducePow, Nat.reduceAdd, Nat.reduceMul]
  refine RW.det [] rfl rfl rfl rfl (fun _ => rfl) (fun V hV => Rel_call rfl Try.call35 (fun w hw => add_spec A _ hA (Nat.lt_of_lt_of_le (Nat.mod_lt _ Qn_pos) (by decide)) w)) (fun _ _ _ => rfl) ?_
  dsimp only [put, List.set, ev, nth, List.nil_append, List.cons_append, md, Nat.reducePow, Nat.reduceAdd, Nat.reduceMul]
  refine RW.pure rfl rfl (fun _ => rfl) (fun V hV => det_build0 z22 Try.underlying22 Try.sizeOf5) (fun _ _ _ => rfl) ?_
  dsimp only [put, List.set, ev, nth, List.nil_append, List.cons_append, md, Nat.reducePow, Nat.reduceAdd, Nat.reduceMul]
  refine RW.pure rfl rfl (fun _ => rfl) (fun V hV => Det.bv true (det_eqlA Try.underlying22 Try.sizeOf5 Try.isAgg5 Try.underlying5 Try.eqGuardType22 rfl rfl) (eqA_same fun i _ => by rw [Nat.add_comm, neg_add, byt_zero])) (fun _ _ _ => rfl) ?_
  dsimp only [put, List.set, ev, nth, List.nil_append, List.cons_append, md, Nat.reducePow, Nat.reduceAdd, Nat.reduceMul]
  refine RW.pure rfl rfl (fun _ => rfl) (fun V hV => det_pick_true rfl) (fun _ _ _ => rfl) ?_
  dsimp only [put, List.set, ev, nth, List.nil_append, List.cons_append, md, Nat.reducePow, Nat.reduceAdd, Nat.reduceMul]
  refine RW.pure rfl rfl (fun _ => rfl) (fun V hV => det_move) (fun _ _ _ => rfl) ?_
  dsimp only [put, List.set, ev, nth, List.nil_append, List.cons_append, md, Nat.reducePow, Nat.reduceAdd, Nat.reduceMul]
  refine RW.pure rfl rfl (fun _ => rfl) (fun V hV => det_move) (fun _ _ _ => rfl) ?_
  dsimp only [put, List.set, ev, nth, List.nil_append, List.cons_append, md, Nat.reducePow, Nat.reduceAdd, Nat.reduceMul]
  refine RW.pure rfl rfl (fun _ => rfl) (fun V hV => Det.bv true (det_eql (q := 0) rfl rfl) (rfl)) (fun _ _ _ => rfl) ?_
  dsimp only [put, List.set, ev, nth, List.nil_append, List.cons_append, md, Nat.reducePow, Nat.reduceAdd, Nat.reduceMul]
  refine RW.pure rfl rfl (fun _ => rfl) (fun V hV => det_pick_true rfl) (fun _ _ _ => rfl) ?_
  dsimp only [put, List.set, ev, nth, List.nil_append, List.cons_append, md, Nat.reducePow, Nat.reduceAdd, Nat.reduceMul]
  refine RW.pure rfl rfl (fun _ => rfl) (fun V hV => det_move) (fun _ _ _ => rfl) ?_
  dsimp only [put, List.set, ev, nth, List.nil_append, List.cons_append, md, Nat.reducePow, Nat.reduceAdd, Nat.reduceMul]
  refine RW.pure rfl rfl (fun _ => rfl) (fun V hV => det_move) (fun _ _ _ => rfl) ?_
  dsimp only [put, List.set, ev, nth, List.nil_append, List.cons_append, md, Nat.reducePow, Nat.reduceAdd, Nat.reduceMul]
  refine RW.det [] rfl rfl rfl rfl (fun _ => rfl) (fun V hV => Det.rel (det_loadWA 0 Try.underlying22 rfl i22 rfl rfl)) (fun _ _ _ => rfl) ?_
  dsimp only [put, List.set, ev, nth, List.nil_append, List.cons_append, md, Nat.reducePow, Nat.reduceAdd, Nat.reduceMul]
  refine RW.pure (e := fun _ => .agg (arr .u8 32 (byt 0))) rfl rfl (fun _ => rfl) (fun V hV => fun w _ => by kernel_rfl) (fun _ _ _ => rfl) ?_
  dsimp only [put, List.set, ev, nth, List.nil_append, List.cons_append, md, Nat.reducePow, Nat.reduceAdd, Nat.reduceMul]
  refine RW.det [] rfl rfl rfl rfl (fun _ => rfl) (fun V hV => Rel_call rfl Try.call35 (fun w hw => add_spec A 0 hA (by decide) w)) (fun _ _ _ => rfl) ?_
  dsimp only [put, List.set, ev, nth, List.nil_append, List.cons_append, md, Nat.reducePow, Nat.reduceAdd, Nat.reduceMul]
  refine RW.det [] rfl rfl rfl rfl (fun _ => rfl) (fun V hV => Det.rel (det_loadWA 3 Try.underlying22 rfl i22 rfl rfl)) (fun _ _ _ => rfl) ?_
  dsimp only [put, List.set, ev, nth, List.nil_append, List.cons_append, md, Nat.reducePow, Nat.reduceAdd, Nat.reduceMul]
  refine RW.pure rfl rfl (fun _ => rfl) (fun V hV => Det.bv true (det_eqlA Try.underlying22 Try.sizeOf5 Try.isAgg5 Try.underlying5 Try.eqGuardType22 rfl rfl) (eqA_same fun _ _ => rfl)) (fun _ _ _ => rfl) ?_
  dsimp only [put, List.set, ev, nth, List.nil_append, List.cons_append, md, Nat.reducePow, Nat.reduceAdd, Nat.reduceMul]
  refine RW.pure rfl rfl (fun _ => rfl) (fun V hV => det_pick_true rfl) (fun _ _ _ => rfl) ?_
  dsimp only [put, List.set, ev, nth, List.nil_append, List.cons_append, md, Nat.reducePow, Nat.reduceAdd, Nat.reduceMul]
  refine RW.pure rfl rfl (fun _ => rfl) (fun V hV => det_move) (fun _ _ _ => rfl) ?_
  dsimp only [put, List.set, ev, nth, List.nil_append, List.cons_append, md, Nat.reducePow, Nat.reduceAdd, Nat.reduceMul]
  refine RW.pure rfl rfl (fun _ => rfl) (fun V hV => det_move) (fun _ _ _ => rfl) ?_
  dsimp only [put, List.set, ev, nth, List.nil_append, List.cons_append, md, Nat.reducePow, Nat.reduceAdd, Nat.reduceMul]
  refine RW.det [] rfl rfl rfl rfl (fun _ => rfl) (fun V hV => Det.rel (det_loadWA 0 Try.underlying22 rfl i22 rfl rfl)) (fun _ _ _ => rfl) ?_
  dsimp only [put, List.set, ev, nth, List.nil_append, List.cons_append, md, Nat.reducePow, Nat.reduceAdd, Nat.reduceMul]
  refine RW.pure (e := fun _ => .agg (arr .u8 32 (byt 1))) rfl rfl (fun _ => rfl) (fun V hV => fun w _ => by kernel_rfl) (fun _ _ _ => rfl) ?_
  dsimp only [put, List.set, ev, nth, List.nil_append, List.cons_append, md, Nat.reducePow, Nat.reduceAdd, Nat.reduceMul]
  refine RW.det [] rfl rfl rfl rfl (fun _ => rfl) (fun V hV => Rel_call rfl Try.call37 (fun w hw => mul_spec A 1 hA (by decide) w)) (fun _ _ _ => rfl) ?_
  dsimp only [put, List.set, ev, nth, List.nil_append, List.cons_append, md, Nat.reducePow, Nat.reduceAdd, Nat.reduceMul]
  refine RW.det [] rfl rfl rfl rfl (fun _ => rfl) (fun V hV => Det.rel (det_loadWA 3 Try.underlying22 rfl i22 rfl rfl)) (fun _ _ _ => rfl) ?_
  dsimp only [put, List.set, ev, nth, List.nil_append, List.cons_append, md, Nat.reducePow, Nat.reduceAdd, Nat.reduceMul]
  refine RW.pure rfl rfl (fun _ => rfl) (fun V hV => Det.bv true (det_eqlA Try.underlying22 Try.sizeOf5 Try.isAgg5 Try.underlying5 Try.eqGuardType22 rfl rfl) (eqA_same fun i _ => by rw [Nat.mul_one])) (fun _ _ _ => rfl) ?_
  dsimp only [put, List.set, ev, nth, List.nil_append, List.cons_append, md, Nat.reducePow, Nat.reduceAdd, Nat.reduceMul]
  refine RW.pure rfl rfl (fun _ => rfl) (fun V hV => det_pick_true rfl) (fun _ _ _ => rfl) ?_
  dsimp only [put, List.set, ev, nth, List.nil_append, List.cons_append, md, Nat.reducePow, Nat.reduceAdd, Nat.reduceMul]
  refine RW.pure rfl rfl (fun _ => rfl) (fun V hV => det_move) (fun _ _ _ => rfl) ?_
  dsimp only [put, List.set, ev, nth, List.nil_append, List.cons_append, md, Nat.reducePow, Nat.reduceAdd, Nat.reduceMul]
  refine RW.pure rfl rfl (fun _ => rfl) (fun V hV => det_move) (fun _ _ _ => rfl) ?_
  dsimp only [put, List.set, ev, nth, List.nil_append, List.cons_append, md, Nat.reducePow, Nat.reduceAdd, Nat.reduceMul]
  refine RW.det [] rfl rfl rfl rfl (fun _ => rfl) (fun V hV => Rel_call rfl Try.call24 (fun w hw => order_spec w)) (fun _ _ _ => rfl) ?_
  dsimp only [put, List.set, ev, nth, List.nil_append, List.cons_append, md, Nat.reducePow, Nat.reduceAdd, Nat.reduceMul]
  refine RW.det [] rfl rfl rfl rfl (fun _ => rfl) (fun V hV => Det.rel (det_loadWA 0 Try.underlying22 rfl i22 rfl rfl)) (fun _ _ _ => rfl) ?_
  dsimp only [put, List.set, ev, nth, List.nil_append, List.cons_append, md, Nat.reducePow, Nat.reduceAdd, Nat.reduceMul]
  refine RW.det [] rfl rfl rfl rfl (fun _ => rfl) (fun V hV => Rel_call rfl Try.call37 (fun w hw => mul_spec Qn A (by decide) hA w)) (fun _ _ _ => rfl) ?_
  dsimp only [put, List.set, ev, nth, List.nil_append, List.cons_append, md, Nat.reducePow, Nat.reduceAdd, Nat.reduceMul]
  refine RW.pure rfl rfl (fun _ => rfl) (fun V hV => det_build0 z22 Try.underlying22 Try.sizeOf5) (fun _ _ _ => rfl) ?_
  dsimp only [put, List.set, ev, nth, List.nil_append, List.cons_append, md, Nat.reducePow, Nat.reduceAdd, Nat.reduceMul]
  refine RW.pure rfl rfl (fun _ => rfl) (fun V hV => Det.bv true (det_eqlA Try.underlying22 Try.sizeOf5 Try.isAgg5 Try.underlying5 Try.eqGuardType22 rfl rfl) (eqA_same fun i _ => by rw [Nat.mul_mod_right, byt_zero])) (fun _ _ _ => rfl) ?_
  dsimp only [put, List.set, ev, nth, List.nil_append, List.cons_append, md, Nat.reducePow, Nat.reduceAdd, Nat.reduceMul]
  refine RW.pure rfl rfl (fun _ => rfl) (fun V hV => det_pick_true rfl) (fun _ _ _ => rfl) ?_
  dsimp only [put, List.set, ev, nth, List.nil_append, List.cons_append, md, Nat.reducePow, Nat.reduceAdd, Nat.reduceMul]
  refine RW.pure rfl rfl (fun _ => rfl) (fun V hV => det_assign) (fun _ _ _ => rfl) ?_
  dsimp only [put, List.set, ev, nth, List.nil_append, List.cons_append, md, Nat.reducePow, Nat.reduceAdd, Nat.reduceMul]
  refine RW.done (fun V => _ ++ flat [] V) rfl rfl (fun _ => rfl) (fun V hV => ?_)
  try dsimp only [put, blk, flat_nil, List.append_nil, List.append, List.eraseIdx, List.set, ev, nth, List.nil_append, List.cons_append, md, Nat.reducePow, Nat.reduceAdd, Nat.reduceMul]
  refine WC_ret ?_
  refine fin_tmp Try.results8 rfl ([]) (List.nil_sublist _) ?_
  exact ⟨rfl, rfl⟩

end Go.Proofs.Ytpmldkhgdpchjaa
