/- Walks of the Go functions, printed by a program of this claim. Conditions: none. -/
import Derived.Test.YtpmldkhgdpchjaaS18
set_option linter.unusedVariables false
namespace Go.Proofs.Ytpmldkhgdpchjaa
open Go.MW
set_option maxRecDepth 100000 in
set_option maxHeartbeats 2000000 in
theorem pnums_small (A N n c1 : Nat) (hA : A < 256 ^ 17) (hN : N < 256 ^ 17) (f : Nat → Nat) (p1 : Option Addr) (hf : ∀ i, i < n → f i < 256) (hnl : n ≤ maxLen) (hn : n ≤ 17) (w : World) (ha : Rd w .u8 n f (.slice p1 n c1)) :
    Calls Try.prog 12 [.agg (arr .u8 17 (byt A)), .agg (arr .u8 17 (byt N)), .slice p1 n c1].toArray w (PostV w (.bool true)) := by
  simp only [maxLen] at hnl
  refine calls_of_WC Try.func12 rfl ?_
  simp only [Try.ntmps12, List.length_cons, List.length_nil, Nat.reduceAdd, Nat.reduceSub, List.replicate, List.cons_append, List.nil_append]
  refine WC_seq ?_
  refine WC_region ?_
  refine WL_rel rfl (rel_box rfl rfl) ?_
  rintro _ _ ⟨b0, rfl, rfl⟩
  dsimp only [put, List.set, ev, nth, List.nil_append, List.cons_append, md, Nat.reducePow, Nat.reduceAdd, Nat.reduceMul]
  refine WL_rel rfl (rel_box rfl rfl) ?_
  rintro _ _ ⟨b1, rfl, rfl⟩
  dsimp only [put, List.set, ev, nth, List.nil_append, List.cons_append, md, Nat.reducePow, Nat.reduceAdd, Nat.reduceMul]
  refine WL_det rfl (det_assign) ?_
  dsimp only [put, List.set, ev, nth, List.nil_append, List.cons_append, md, Nat.reducePow, Nat.reduceAdd, Nat.reduceMul]
  refine WL_nil ?_
  refine WC_seq ?_
  refine WC_seq ?_
  refine WC_region ?_
  refine WL_rel rfl (Rel_call rfl Try.call44 (fun w hw => pawake_spec w)) ?_
  rintro _ _ ⟨rfl, rfl⟩
  dsimp only [put, List.append_nil, List.set, ev, nth, List.nil_append, List.cons_append, md, Nat.reducePow, Nat.reduceAdd, Nat.reduceMul]
  refine WL_det rfl (det_not rfl) ?_
  dsimp only [put, List.set, ev, nth, List.nil_append, List.cons_append, md, Nat.reducePow, Nat.reduceAdd, Nat.reduceMul]
  refine WL_nil ?_
  refine WC_cond_false rfl ?_
  refine WC_skip ?_
  refine WC_seq ?_
  refine WC_seq ?_
  refine WC_region ?_
  refine WL_det rfl (det_move) ?_
  dsimp only [put, List.set, ev, nth, List.nil_append, List.cons_append, md, Nat.reducePow, Nat.reduceAdd, Nat.reduceMul]
  refine WL_det rfl (det_len Try.underlying35 rfl) ?_
  dsimp only [put, List.set, ev, nth, List.nil_append, List.cons_append, md, Nat.reducePow, Nat.reduceAdd, Nat.reduceMul]
  refine WL_det rfl (det_gtr (q := 100) rfl rfl) ?_
  dsimp only [put, List.set, ev, nth, List.nil_append, List.cons_append, md, Nat.reducePow, Nat.reduceAdd, Nat.reduceMul]
  refine WL_nil ?_
  refine WC_cond rfl (fun hc1 => ?_) (fun hc1 => ?_)
  · have hc1 := of_decide_eq_true hc1
    refine WC_seq ?_
    refine WC_region ?_
    refine WL_det rfl (det_assign) ?_
    dsimp only [put, List.set, ev, nth, List.nil_append, List.cons_append, md, Nat.reducePow, Nat.reduceAdd, Nat.reduceMul]
    refine WL_nil ?_
    refine WC_ret ?_
    refine fin_tmp Try.results12 rfl ([]) (List.nil_sublist _) ?_
    exact ⟨rfl, rfl⟩
  · have hc1 := of_decide_eq_false hc1
    refine WC_skip ?_
    refine WC_seq ?_
    refine WC_draw [[], [], [], [], [0, 2, 3], [0, 1, 2, 3, 4]] [4, 5] 88 _ (.cons_cons _ (.cons_cons _ .slnil)) mixed rfl (by decide) ?_
    refine RW.det [] rfl rfl rfl rfl (fun _ => rfl) (fun V hV => Det.rel (det_loadWA 0 Try.underlying75 rfl i75 rfl rfl)) (fun _ _ _ => rfl) ?_
    dsimp only [put, List.set, ev, nth, List.nil_append, List.cons_append, md, Nat.reducePow, Nat.reduceAdd, Nat.reduceMul]
    refine RW.pure rfl rfl (fun _ => rfl) (fun V hV => det_loadWA 1 Try.underlying75 rfl i75 rfl rfl) (fun _ _ _ => rfl) ?_
    dsimp only [put, List.set, ev, nth, List.nil_append, List.cons_append, md, Nat.reducePow, Nat.reduceAdd, Nat.reduceMul]
    refine RW.rel' (R0 := fun _ => IsNew (arr .u8 17 fun _ => 0) 76) [] rfl rfl rfl rfl (fun _ => rfl) rfl (fun V hV => draw_alloc z76 rfl) (fun _ _ _ _ _ h => h) ?_
    dsimp only [put, List.set, ev, nth, List.nil_append, List.cons_append, md, Nat.reducePow, Nat.reduceAdd, Nat.reduceMul]
    refine RW.rel' (R0 := fun _ => IsNew (arr .u8 17 fun _ => 0) 76) [] rfl rfl rfl rfl (fun _ => rfl) rfl (fun V hV => draw_alloc z76 rfl) (fun _ _ _ _ _ h => h) ?_
    dsimp only [put, List.set, ev, nth, List.nil_append, List.cons_append, md, Nat.reducePow, Nat.reduceAdd, Nat.reduceMul]
    refine RW.tail' (B := fun V => _ ++ flat [2, 3] V) rfl rfl rfl rfl (fun _ => rfl) (fun V hV => chg_storeWA 2 Try.sizeOf76 (IsNew.ptr (hV 2 (by decide) _ rfl)) (by have e2 : (V 2).2 = _ := IsNew.mem (hV 2 (by decide) _ rfl); have e3 : (V 3).2 = _ := IsNew.mem (hV 3 (by decide) _ rfl); simp only [flat_cons, flat_nil, e2, e3]; rfl) rfl) (fun V V' hV _ _ h => by simpa only [flat_cons, flat_nil, hV 2 (by decide), hV 3 (by decide)] using h) (fun V hV v m' h => by subst h; exact (.cons_cons _ (.cons_cons _ (List.nil_sublist _)))) ?_
    dsimp only [put, List.set, ev, nth, List.nil_append, List.cons_append, md, Nat.reducePow, Nat.reduceAdd, Nat.reduceMul]
    refine RW.tail' (B := fun V => (V 4).2) rfl rfl rfl rfl (fun _ => rfl) (fun V hV => by have hp : (V 4).2 = _ := hV 4 (by decide) _ rfl; rw [hp]; exact chg_storeWA 3 Try.sizeOf76 (IsNew.ptr (hV 3 (by decide) _ rfl)) (by have e2 : (V 2).2 = _ := IsNew.mem (hV 2 (by decide) _ rfl); have e3 : (V 3).2 = _ := IsNew.mem (hV 3 (by decide) _ rfl); simp only [flat_cons, flat_nil, e2, e3]; rfl) rfl) (fun V V' hV _ _ h => by simpa only [flat_cons, flat_nil, hV 2 (by decide), hV 3 (by decide), hV 4 (by decide)] using h) (fun V hV v m' h => by subst h; exact (.cons_cons _ (.cons_cons _ (List.nil_sublist _)))) ?_
    dsimp only [put, List.set, ev, nth, List.nil_append, List.cons_append, md, Nat.reducePow, Nat.reduceAdd, Nat.reduceMul]
    refine RW.done (fun V => (V 5).2) rfl rfl (fun _ => rfl) (fun V hV => ?_)
    obtain ⟨b2, hp2, hq2⟩ : IsNew _ _ (V 2).1 (V 2).2 := hV 2 _ rfl
    obtain ⟨b3, hp3, hq3⟩ : IsNew _ _ (V 3).1 (V 3).2 := hV 3 _ rfl
    have ht5 : (V 5).2 = _ := hV 5 _ rfl
    simp only [hp2, hq2, hp3, hq3, ht5, flat_cons, flat_nil]
    try dsimp only [put, blk, flat_nil, List.append_nil, List.append, List.eraseIdx, List.set, ev, nth, List.nil_append, List.cons_append, md, Nat.reducePow, Nat.reduceAdd, Nat.reduceMul]
    clear hV hp2 hq2 hp3 hq3 ht5
    refine WC_seq ?_
    refine WC_draw [[], [0], [0, 1], [], [0, 1, 2, 3], [0, 1, 2, 3, 4], [0, 1, 2, 3, 4, 5], [0, 1, 2, 3, 4, 5, 6]] [] 88 [] (List.nil_sublist _) mixed rfl (by decide) ?_
    refine RW.pure rfl rfl (fun _ => rfl) (fun V hV => det_sliceA Try.underlying75 Try.sizeOf5 rfl) (fun _ _ _ => rfl) ?_
    dsimp only [put, List.set, ev, nth, List.nil_append, List.cons_append, md, Nat.reducePow, Nat.reduceAdd, Nat.reduceMul]
    refine RW.rel' (R0 := fun _ v m => ∃ e, RowN .i64 3 9 (dig A) v e ∧ m = [e]) [] rfl rfl rfl rfl (fun _ => rfl) rfl (fun V hV => Rel_call rfl Try.call48 (fun w hw => pdig17 A hA _ w (Rd.arr hw 0 rfl (Nat.le_refl _)))) (fun _ _ _ _ _ h => h) ?_
    dsimp only [put, List.set, ev, nth, List.nil_append, List.cons_append, md, Nat.reducePow, Nat.reduceAdd, Nat.reduceMul]
    refine RW.rel' (R0 := fun _ v m => ∃ e, RowN .i64 3 10 (dig (A % Pp)) v e ∧ m = [e]) [1] rfl rfl rfl rfl (fun _ => rfl) rfl (fun V hV => Rel_call rfl Try.call47 (fun w hw => pmod_dig A 9 (Nat.lt_of_lt_of_le hA (by decide)) (by decide) _ w (Rd.rowNew hw (flat_mem (j := 1) (by decide)) (hV 1 (by decide) _ rfl)))) (fun _ _ _ _ _ h => h) ?_
    dsimp only [put, List.set, ev, nth, List.nil_append, List.cons_append, md, Nat.reducePow, Nat.reduceAdd, Nat.reduceMul]
    refine RW.pure rfl rfl (fun _ => rfl) (fun V hV => det_sliceA Try.underlying75 Try.sizeOf5 rfl) (fun _ _ _ => rfl) ?_
    dsimp only [put, List.set, ev, nth, List.nil_append, List.cons_append, md, Nat.reducePow, Nat.reduceAdd, Nat.reduceMul]
    refine RW.rel' (R0 := fun _ v m => ∃ e, RowN .i64 3 9 (dig N) v e ∧ m = [e]) [] rfl rfl rfl rfl (fun _ => rfl) rfl (fun V hV => Rel_call rfl Try.call48 (fun w hw => pdig17 N hN _ w (Rd.arr hw 1 rfl (Nat.le_refl _)))) (fun _ _ _ _ _ h => h) ?_
    dsimp only [put, List.set, ev, nth, List.nil_append, List.cons_append, md, Nat.reducePow, Nat.reduceAdd, Nat.reduceMul]
    refine RW.rel' (R0 := fun _ v m => ∃ e, RowN .i64 3 10 (dig (N % Pp)) v e ∧ m = [e]) [4] rfl rfl rfl rfl (fun _ => rfl) rfl (fun V hV => Rel_call rfl Try.call47 (fun w hw => pmod_dig N 9 (Nat.lt_of_lt_of_le hN (by decide)) (by decide) _ w (Rd.rowNew hw (flat_mem (j := 4) (by decide)) (hV 4 (by decide) _ rfl)))) (fun _ _ _ _ _ h => h) ?_
    dsimp only [put, List.set, ev, nth, List.nil_append, List.cons_append, md, Nat.reducePow, Nat.reduceAdd, Nat.reduceMul]
    refine RW.pure rfl rfl (fun _ => rfl) (fun V hV => det_assign) (fun V V' hV => by first | rfl | (dsimp only [ev, nth]; simp only [hV 2 (by decide)])) ?_
    dsimp only [put, List.set, ev, nth, List.nil_append, List.cons_append, md, Nat.reducePow, Nat.reduceAdd, Nat.reduceMul]
    refine RW.pure rfl rfl (fun _ => rfl) (fun V hV => det_assign) (fun V V' hV => by first | rfl | (dsimp only [ev, nth]; simp only [hV 5 (by decide)])) ?_
    dsimp only [put, List.set, ev, nth, List.nil_append, List.cons_append, md, Nat.reducePow, Nat.reduceAdd, Nat.reduceMul]
    refine RW.done (fun V => _ ++ flat [1, 2, 4, 5] V) rfl rfl (fun _ => rfl) (fun V hV => ?_)
    obtain ⟨e1, hr1, hq1⟩ : ∃ e, RowN .i64 3 9 (dig A) (V 1).1 e ∧ (V 1).2 = [e] := hV 1 _ rfl
    obtain ⟨v1, hv1⟩ : ∃ v, v = (V 1).1 := ⟨_, rfl⟩
    rw [← hv1] at hr1
    obtain ⟨e2, hr2, hq2⟩ : ∃ e, RowN .i64 3 10 (dig (A % Pp)) (V 2).1 e ∧ (V 2).2 = [e] := hV 2 _ rfl
    obtain ⟨v2, hv2⟩ : ∃ v, v = (V 2).1 := ⟨_, rfl⟩
    rw [← hv2] at hr2
    obtain ⟨e4, hr4, hq4⟩ : ∃ e, RowN .i64 3 9 (dig N) (V 4).1 e ∧ (V 4).2 = [e] := hV 4 _ rfl
    obtain ⟨v4, hv4⟩ : ∃ v, v = (V 4).1 := ⟨_, rfl⟩
    rw [← hv4] at hr4
    obtain ⟨e5, hr5, hq5⟩ : ∃ e, RowN .i64 3 10 (dig (N % Pp)) (V 5).1 e ∧ (V 5).2 = [e] := hV 5 _ rfl
    obtain ⟨v5, hv5⟩ : ∃ v, v = (V 5).1 := ⟨_, rfl⟩
    rw [← hv5] at hr5
    simp only [hq1, ← hv1, hq2, ← hv2, hq4, ← hv4, hq5, ← hv5, flat_cons, flat_nil]
    try dsimp only [put, blk, flat_nil, List.append_nil, List.append, List.eraseIdx, List.set, ev, nth, List.nil_append, List.cons_append, md, Nat.reducePow, Nat.reduceAdd, Nat.reduceMul]
    clear hV
    refine WC_seq ?_
    refine WC_seq ?_
    refine WC_region ?_
    refine WL_det rfl (det_loadWA 2 Try.underlying76 rfl i76 rfl rfl) ?_
    dsimp only [put, List.set, ev, nth, List.nil_append, List.cons_append, md, Nat.reducePow, Nat.reduceAdd, Nat.reduceMul]
    refine WL_rel rfl (Rel_call rfl Try.call49 (fun w hw => nbytes_spec A hA w)) ?_
    rintro _ _ ⟨rfl, rfl⟩
    dsimp only [put, List.append_nil, List.set, ev, nth, List.nil_append, List.cons_append, md, Nat.reducePow, Nat.reduceAdd, Nat.reduceMul]
    refine WL_det rfl (det_move) ?_
    dsimp only [put, List.set, ev, nth, List.nil_append, List.cons_append, md, Nat.reducePow, Nat.reduceAdd, Nat.reduceMul]
    refine WL_rel rfl (Rel_call rfl Try.call50 (fun w hw => pbytes_spec _ _ w (Rd.row hw 5 rfl hr2))) ?_
    rintro _ _ ⟨rfl, rfl⟩
    dsimp only [put, List.append_nil, List.set, ev, nth, List.nil_append, List.cons_append, md, Nat.reducePow, Nat.reduceAdd, Nat.reduceMul]
    refine WL_det rfl (Det.bv false (det_neqA Try.underlying75 Try.sizeOf5 Try.isAgg5 Try.underlying5 Try.eqGuardType75 rfl rfl) (neqA_same fun _ _ => rfl)) ?_
    dsimp only [put, List.set, ev, nth, List.nil_append, List.cons_append, md, Nat.reducePow, Nat.reduceAdd, Nat.reduceMul]
    refine WL_det rfl (det_move) ?_
    dsimp only [put, List.set, ev, nth, List.nil_append, List.cons_append, md, Nat.reducePow, Nat.reduceAdd, Nat.reduceMul]
    refine WL_detG rfl (det_loadWA 2 Try.underlying76 rfl i76 rfl rfl) ?_
    dsimp only [put, List.set, ev, nth, List.nil_append, List.cons_append, md, Nat.reducePow, Nat.reduceAdd, Nat.reduceMul]
    refine WL_detG rfl (det_loadWA 3 Try.underlying76 rfl i76 rfl rfl) ?_
    dsimp only [put, List.set, ev, nth, List.nil_append, List.cons_append, md, Nat.reducePow, Nat.reduceAdd, Nat.reduceMul]
    refine WL_relG rfl (Rel_call rfl Try.call51 (fun w hw => nadd_spec A N hA hN w)) ?_
    rintro _ _ ⟨rfl, rfl⟩
    dsimp only [put, List.append_nil, List.set, ev, nth, List.nil_append, List.cons_append, md, Nat.reducePow, Nat.reduceAdd, Nat.reduceMul]
    refine WL_relG rfl (Rel_call rfl Try.call49 (fun w hw => nbytes_spec _ (P_lt (Nat.mod_lt _ Pp_pos)) w)) ?_
    rintro _ _ ⟨rfl, rfl⟩
    dsimp only [put, List.append_nil, List.set, ev, nth, List.nil_append, List.cons_append, md, Nat.reducePow, Nat.reduceAdd, Nat.reduceMul]
    refine WL_detG rfl (det_move) ?_
    dsimp only [put, List.set, ev, nth, List.nil_append, List.cons_append, md, Nat.reducePow, Nat.reduceAdd, Nat.reduceMul]
    refine WL_detG rfl (det_move) ?_
    dsimp only [put, List.set, ev, nth, List.nil_append, List.cons_append, md, Nat.reducePow, Nat.reduceAdd, Nat.reduceMul]
    refine WL_relG rfl (Rel_call rfl Try.call52 (fun w hw => padd_spec (A % Pp) (N % Pp) (Nat.mod_lt _ Pp_pos) (Nat.mod_lt _ Pp_pos) _ _ w (Rd.row hw 5 rfl hr2) (Rd.row hw 7 rfl hr5))) ?_
    rintro v39 _ ⟨e39, hr39, rfl⟩
    dsimp only [put, List.append_nil, List.set, ev, nth, List.nil_append, List.cons_append, md, Nat.reducePow, Nat.reduceAdd, Nat.reduceMul]
    refine WL_relG rfl (Rel_call rfl Try.call50 (fun w hw => pbytes_spec _ _ w (Rd.row hw 8 rfl hr39))) ?_
    rintro _ _ ⟨rfl, rfl⟩
    dsimp only [put, List.append_nil, List.set, ev, nth, List.nil_append, List.cons_append, md, Nat.reducePow, Nat.reduceAdd, Nat.reduceMul]
    refine WL_detG rfl (Det.bv false (det_neqA Try.underlying75 Try.sizeOf5 Try.isAgg5 Try.underlying5 Try.eqGuardType75 rfl rfl) (neqA_same fun i _ => by rw [Nat.mod_mod])) ?_
    dsimp only [put, List.set, ev, nth, List.nil_append, List.cons_append, md, Nat.reducePow, Nat.reduceAdd, Nat.reduceMul]
    refine WL_det rfl (det_pick_false rfl) ?_
    dsimp only [put, List.set, ev, nth, List.nil_append, List.cons_append, md, Nat.reducePow, Nat.reduceAdd, Nat.reduceMul]
    refine WL_det rfl (det_move) ?_
    dsimp only [put, List.set, ev, nth, List.nil_append, List.cons_append, md, Nat.reducePow, Nat.reduceAdd, Nat.reduceMul]
    refine WL_detG rfl (det_loadWA 2 Try.underlying76 rfl i76 rfl rfl) ?_
    dsimp only [put, List.set, ev, nth, List.nil_append, List.cons_append, md, Nat.reducePow, Nat.reduceAdd, Nat.reduceMul]
    refine WL_detG rfl (det_loadWA 3 Try.underlying76 rfl i76 rfl rfl) ?_
    dsimp only [put, List.set, ev, nth, List.nil_append, List.cons_append, md, Nat.reducePow, Nat.reduceAdd, Nat.reduceMul]
    refine WL_relG rfl (Rel_call rfl Try.call53 (fun w hw => nmul_spec A N hA hN w)) ?_
    rintro _ _ ⟨rfl, rfl⟩
    dsimp only [put, List.append_nil, List.set, ev, nth, List.nil_append, List.cons_append, md, Nat.reducePow, Nat.reduceAdd, Nat.reduceMul]
    refine WL_relG rfl (Rel_call rfl Try.call49 (fun w hw => nbytes_spec _ (P_lt (Nat.mod_lt _ Pp_pos)) w)) ?_
    rintro _ _ ⟨rfl, rfl⟩
    dsimp only [put, List.append_nil, List.set, ev, nth, List.nil_append, List.cons_append, md, Nat.reducePow, Nat.reduceAdd, Nat.reduceMul]
    refine WL_detG rfl (det_move) ?_
    dsimp only [put, List.set, ev, nth, List.nil_append, List.cons_append, md, Nat.reducePow, Nat.reduceAdd, Nat.reduceMul]
    refine WL_detG rfl (det_move) ?_
    dsimp only [put, List.set, ev, nth, List.nil_append, List.cons_append, md, Nat.reducePow, Nat.reduceAdd, Nat.reduceMul]
    refine WL_relG rfl (Rel_call rfl Try.call54 (fun w hw => pmul_spec (A % Pp) (N % Pp) (Nat.mod_lt _ Pp_pos) (Nat.mod_lt _ Pp_pos) _ _ w (Rd.row hw 5 rfl hr2) (Rd.row hw 7 rfl hr5))) ?_
    rintro v50 _ ⟨e50, hr50, rfl⟩
    dsimp only [put, List.append_nil, List.set, ev, nth, List.nil_append, List.cons_append, md, Nat.reducePow, Nat.reduceAdd, Nat.reduceMul]
    refine WL_relG rfl (Rel_call rfl Try.call50 (fun w hw => pbytes_spec _ _ w (Rd.row hw 9 rfl hr50))) ?_
    rintro _ _ ⟨rfl, rfl⟩
    dsimp only [put, List.append_nil, List.set, ev, nth, List.nil_append, List.cons_append, md, Nat.reducePow, Nat.reduceAdd, Nat.reduceMul]
    refine WL_detG rfl (Det.bv false (det_neqA Try.underlying75 Try.sizeOf5 Try.isAgg5 Try.underlying5 Try.eqGuardType75 rfl rfl) (neqA_same fun i _ => by rw [Nat.mod_mod])) ?_
    dsimp only [put, List.set, ev, nth, List.nil_append, List.cons_append, md, Nat.reducePow, Nat.reduceAdd, Nat.reduceMul]
    refine WL_det rfl (det_pick_false rfl) ?_
    dsimp only [put, List.set, ev, nth, List.nil_append, List.cons_append, md, Nat.reducePow, Nat.reduceAdd, Nat.reduceMul]
    refine WL_nil ?_
    refine WC_cond_false rfl ?_
    refine WC_skip ?_
    refine WC_seq ?_
    refine WC_region ?_
    refine WL_det rfl (det_arrTo (h := 16) Try.underlying75 Try.sizeOf5 rfl rfl (by decide)) ?_
    dsimp only [put, List.set, ev, nth, List.nil_append, List.cons_append, md, Nat.reducePow, Nat.reduceAdd, Nat.reduceMul]
    refine WL_det rfl (det_arrayAt Try.underlying71 rfl (by decide)) ?_
    dsimp only [put, List.set, ev, nth, List.nil_append, List.cons_append, md, Nat.reducePow, Nat.reduceAdd, Nat.reduceMul]
    refine WL_det rfl (det_loadPart0 0 Try.underlying71 i71 rfl rfl (by decide)) ?_
    dsimp only [put, List.set, ev, nth, List.nil_append, List.cons_append, md, Nat.reducePow, Nat.reduceAdd, Nat.reduceMul]
    refine WL_rel rfl (Rel_call rfl Try.call55 (fun w hw => clamp_spec (byt A) (fun i _ => byt_lt A i) w)) ?_
    rintro _ _ ⟨rfl, rfl⟩
    dsimp only [put, List.append_nil, List.set, ev, nth, List.nil_append, List.cons_append, md, Nat.reducePow, Nat.reduceAdd, Nat.reduceMul]
    refine WL_rel rfl (rel_alloc z71 rfl) ?_
    rintro _ _ ⟨b10, rfl, rfl⟩
    dsimp only [put, List.set, ev, nth, List.nil_append, List.cons_append, md, Nat.reducePow, Nat.reduceAdd, Nat.reduceMul]
    refine WL_chg rfl (chg_storeWA 10 Try.sizeOf71 rfl rfl rfl) ?_
    rintro _ _ rfl
    dsimp only [put, List.set, ev, nth, List.nil_append, List.cons_append, md, Nat.reducePow, Nat.reduceAdd, Nat.reduceMul]
    refine WL_nil ?_
    refine WC_seq ?_
    refine WC_seq ?_
    refine WC_draw [[], [], [1], [0, 1, 2], [0, 1, 2, 3]] [] 88 [] (List.nil_sublist _) mixed rfl (by decide) ?_
    refine RW.pure rfl rfl (fun _ => rfl) (fun V hV => det_sliceA Try.underlying71 Try.sizeOf5 rfl) (fun _ _ _ => rfl) ?_
    dsimp only [put, List.set, ev, nth, List.nil_append, List.cons_append, md, Nat.reducePow, Nat.reduceAdd, Nat.reduceMul]
    refine RW.pure rfl rfl (fun _ => rfl) (fun V hV => det_arrTo (h := 16) Try.underlying75 Try.sizeOf5 rfl rfl (by decide)) (fun _ _ _ => rfl) ?_
    dsimp only [put, List.set, ev, nth, List.nil_append, List.cons_append, md, Nat.reducePow, Nat.reduceAdd, Nat.reduceMul]
    refine RW.rel' (R0 := fun _ v m => ∃ e, RowN .u8 5 16 (clf (byt A)) v e ∧ m = [e]) [] rfl rfl rfl rfl (fun _ => rfl) rfl (fun V hV => Rel_call rfl Try.call56 (fun w hw => rclamp_spec (byt A) (fun i _ => byt_lt A i) _ w (Rd.arr hw 0 rfl (by decide)))) (fun _ _ _ _ _ h => h) ?_
    dsimp only [put, List.set, ev, nth, List.nil_append, List.cons_append, md, Nat.reducePow, Nat.reduceAdd, Nat.reduceMul]
    refine RW.det [2] rfl rfl rfl rfl (fun _ => rfl) (fun V hV => Rel_call rfl Try.call20 (fun w hw => same_true 16 (clf (byt A)) (clf (byt A)) (fun _ _ => rfl) (by decide) _ _ w (Rd.arr hw 10 rfl (Nat.le_refl _)) (Rd.rowNew hw (flat_mem (j := 2) (by decide)) (hV 2 (by decide) _ rfl)))) (fun _ _ _ => rfl) ?_
    dsimp only [put, List.set, ev, nth, List.nil_append, List.cons_append, md, Nat.reducePow, Nat.reduceAdd, Nat.reduceMul]
    refine RW.pure rfl rfl (fun _ => rfl) (fun V hV => det_not rfl) (fun _ _ _ => rfl) ?_
    dsimp only [put, List.set, ev, nth, List.nil_append, List.cons_append, md, Nat.reducePow, Nat.reduceAdd, Nat.reduceMul]
    refine RW.done (fun V => _ ++ flat [2] V) rfl rfl (fun _ => rfl) (fun V hV => ?_)
    obtain ⟨e2, hr2, hq2⟩ : ∃ e, RowN .u8 5 16 (clf (byt A)) (V 2).1 e ∧ (V 2).2 = [e] := hV 2 _ rfl
    obtain ⟨v2, hv2⟩ : ∃ v, v = (V 2).1 := ⟨_, rfl⟩
    rw [← hv2] at hr2
    simp only [hq2, ← hv2, flat_cons, flat_nil]
    try dsimp only [put, blk, flat_nil, List.append_nil, List.append, List.eraseIdx, List.set, ev, nth, List.nil_append, List.cons_append, md, Nat.reducePow, Nat.reduceAdd, Nat.reduceMul]
    clear hV
    refine WC_cond_false rfl ?_
    refine WC_skip ?_
    refine WC_seq ?_
    refine WC_region ?_
    refine WL_det rfl (det_move) ?_
    dsimp only [put, List.set, ev, nth, List.nil_append, List.cons_append, md, Nat.reducePow, Nat.reduceAdd, Nat.reduceMul]
    refine WL_rel rfl (Rel_call rfl Try.call57 (fun w hw => pof_small n f hf (by omega) _ w (ha.far hw))) ?_
    rintro _ _ ⟨rfl, rfl⟩
    dsimp only [put, List.append_nil, List.set, ev, nth, List.nil_append, List.cons_append, md, Nat.reducePow, Nat.reduceAdd, Nat.reduceMul]
    refine WL_det rfl (det_move) ?_
    dsimp only [put, List.set, ev, nth, List.nil_append, List.cons_append, md, Nat.reducePow, Nat.reduceAdd, Nat.reduceMul]
    refine WL_det rfl (det_extract rfl rfl) ?_
    dsimp only [put, List.set, ev, nth, List.nil_append, List.cons_append, md, Nat.reducePow, Nat.reduceAdd, Nat.reduceMul]
    refine WL_det rfl (det_extract rfl rfl) ?_
    dsimp only [put, List.set, ev, nth, List.nil_append, List.cons_append, md, Nat.reducePow, Nat.reduceAdd, Nat.reduceMul]
    refine WL_rel rfl (rel_alloc z76 rfl) ?_
    rintro _ _ ⟨b12, rfl, rfl⟩
    dsimp only [put, List.set, ev, nth, List.nil_append, List.cons_append, md, Nat.reducePow, Nat.reduceAdd, Nat.reduceMul]
    refine WL_chg rfl (chg_storeWA 12 Try.sizeOf76 rfl rfl rfl) ?_
    rintro _ _ rfl
    dsimp only [put, List.set, ev, nth, List.nil_append, List.cons_append, md, Nat.reducePow, Nat.reduceAdd, Nat.reduceMul]
    refine WL_det rfl (det_assign) ?_
    dsimp only [put, List.set, ev, nth, List.nil_append, List.cons_append, md, Nat.reducePow, Nat.reduceAdd, Nat.reduceMul]
    refine WL_nil ?_
    refine WC_seq ?_
    refine WC_seq ?_
    refine WC_region ?_
    refine WL_det rfl (det_move) ?_
    dsimp only [put, List.set, ev, nth, List.nil_append, List.cons_append, md, Nat.reducePow, Nat.reduceAdd, Nat.reduceMul]
    refine WL_det rfl (det_len Try.underlying35 rfl) ?_
    dsimp only [put, List.set, ev, nth, List.nil_append, List.cons_append, md, Nat.reducePow, Nat.reduceAdd, Nat.reduceMul]
    refine WL_det rfl (det_gtr (q := 17) rfl rfl) ?_
    dsimp only [put, List.set, ev, nth, List.nil_append, List.cons_append, md, Nat.reducePow, Nat.reduceAdd, Nat.reduceMul]
    refine WL_nil ?_
    refine WC_cond rfl (fun hc4 => ?_) (fun hc4 => ?_)
    · have hc4 := of_decide_eq_true hc4
      exact absurd hc4 (by omega)
    · have hc4 := of_decide_eq_false hc4
      refine WC_skip ?_
      refine WC_seq ?_
      refine WC_draw [[], [0], [0, 1], [0, 1, 2], [0, 1, 2], [0, 1, 2, 4], [0, 1, 2, 4, 5], [0, 1, 2, 4, 5, 6], [0, 1, 2, 3, 4, 5, 6, 7], [0, 1, 2, 3, 4, 5, 6, 7, 8], [0, 1, 2, 3, 4, 5, 6, 7, 8, 9]] [] 88 [] (List.nil_sublist _) mixed rfl (by decide) ?_
      refine RW.pure rfl rfl (fun _ => rfl) (fun V hV => det_move) (fun _ _ _ => rfl) ?_
      dsimp only [put, List.set, ev, nth, List.nil_append, List.cons_append, md, Nat.reducePow, Nat.reduceAdd, Nat.reduceMul]
      refine RW.pure rfl rfl (fun _ => rfl) (fun V hV => Det.bv true (det_eql (q := 0) rfl rfl) (rfl)) (fun _ _ _ => rfl) ?_
      dsimp only [put, List.set, ev, nth, List.nil_append, List.cons_append, md, Nat.reducePow, Nat.reduceAdd, Nat.reduceMul]
      refine RW.pure rfl rfl (fun _ => rfl) (fun V hV => det_move) (fun _ _ _ => rfl) ?_
      dsimp only [put, List.set, ev, nth, List.nil_append, List.cons_append, md, Nat.reducePow, Nat.reduceAdd, Nat.reduceMul]
      refine RW.det [] rfl rfl rfl rfl (fun _ => rfl) (fun V hV => Det.rel (det_loadWA 12 Try.underlying76 rfl i76 rfl rfl)) (fun _ _ _ => rfl) ?_
      dsimp only [put, List.set, ev, nth, List.nil_append, List.cons_append, md, Nat.reducePow, Nat.reduceAdd, Nat.reduceMul]
      refine RW.pure rfl rfl (fun _ => rfl) (fun V hV => det_move) (fun _ _ _ => rfl) ?_
      dsimp only [put, List.set, ev, nth, List.nil_append, List.cons_append, md, Nat.reducePow, Nat.reduceAdd, Nat.reduceMul]
      refine RW.rel' (R0 := fun _ v m => ∃ e, RowN .i64 3 ((n + 1) / 2) (dig (lev f n)) v e ∧ m = [e]) [] rfl rfl rfl rfl (fun _ => rfl) rfl (fun V hV => Rel_call rfl Try.call48 (fun w hw => pdigits_spec n f hf (by omega) _ w (ha.far hw))) (fun _ _ _ _ _ h => h) ?_
      dsimp only [put, List.set, ev, nth, List.nil_append, List.cons_append, md, Nat.reducePow, Nat.reduceAdd, Nat.reduceMul]
      refine RW.rel' (R0 := fun _ v m => ∃ e, RowN .i64 3 10 (dig (lev f n % Pp)) v e ∧ m = [e]) [5] rfl rfl rfl rfl (fun _ => rfl) rfl (fun V hV => Rel_call rfl Try.call47 (fun w hw => pmod_dig (lev f n) ((n + 1) / 2) (half_lt (lev_lt f n hf)) (by omega) _ w (Rd.rowNew hw (flat_mem (j := 5) (by decide)) (hV 5 (by decide) _ rfl)))) (fun _ _ _ _ _ h => h) ?_
      dsimp only [put, List.set, ev, nth, List.nil_append, List.cons_append, md, Nat.reducePow, Nat.reduceAdd, Nat.reduceMul]
      refine RW.det [6] rfl rfl rfl rfl (fun _ => rfl) (fun V hV => Rel_call rfl Try.call50 (fun w hw => pbytes_spec _ _ w (Rd.rowNew hw (flat_mem (j := 6) (by decide)) (hV 6 (by decide) _ rfl)))) (fun _ _ _ => rfl) ?_
      dsimp only [put, List.set, ev, nth, List.nil_append, List.cons_append, md, Nat.reducePow, Nat.reduceAdd, Nat.reduceMul]
      refine RW.pure rfl rfl (fun _ => rfl) (fun V hV => Det.bv true (det_eqlA Try.underlying75 Try.sizeOf5 Try.isAgg5 Try.underlying5 Try.eqGuardType75 rfl rfl) (eqA_same fun _ _ => rfl)) (fun _ _ _ => rfl) ?_
      dsimp only [put, List.set, ev, nth, List.nil_append, List.cons_append, md, Nat.reducePow, Nat.reduceAdd, Nat.reduceMul]
      refine RW.pure rfl rfl (fun _ => rfl) (fun V hV => det_pick_true rfl) (fun _ _ _ => rfl) ?_
      dsimp only [put, List.set, ev, nth, List.nil_append, List.cons_append, md, Nat.reducePow, Nat.reduceAdd, Nat.reduceMul]
      refine RW.pure rfl rfl (fun _ => rfl) (fun V hV => det_assign) (fun _ _ _ => rfl) ?_
      dsimp only [put, List.set, ev, nth, List.nil_append, List.cons_append, md, Nat.reducePow, Nat.reduceAdd, Nat.reduceMul]
      refine RW.done (fun V => _ ++ flat [5, 6] V) rfl rfl (fun _ => rfl) (fun V hV => ?_)
      obtain ⟨e5, hr5, hq5⟩ : ∃ e, RowV _ _ _ (V 5).1 e ∧ (V 5).2 = [e] := hV 5 _ rfl
      obtain ⟨e6, hr6, hq6⟩ : ∃ e, RowV _ _ _ (V 6).1 e ∧ (V 6).2 = [e] := hV 6 _ rfl
      simp only [hq5, hq6, flat_cons, flat_nil]
      try dsimp only [put, blk, flat_nil, List.append_nil, List.append, List.eraseIdx, List.set, ev, nth, List.nil_append, List.cons_append, md, Nat.reducePow, Nat.reduceAdd, Nat.reduceMul]
      clear hV
      refine WC_ret ?_
      refine fin_tmp Try.results12 rfl ([]) (List.nil_sublist _) ?_
      exact ⟨rfl, rfl⟩

set_option maxRecDepth 100000 in
set_option maxHeartbeats 2000000 in
theorem pnums_large (A N n c1 : Nat) (hA : A < 256 ^ 17) (hN : N < 256 ^ 17) (f : Nat → Nat) (p1 : Option Addr) (hf : ∀ i, i < n → f i < 256) (hnl : n ≤ maxLen) (hn : 17 < n) (w : World) (ha : Rd w .u8 n f (.slice p1 n c1)) :
    Calls Try.prog 12 [.agg (arr .u8 17 (byt A)), .agg (arr .u8 17 (byt N)), .slice p1 n c1].toArray w (PostV w (.bool true)) := by
  simp only [maxLen] at hnl
  refine calls_of_WC Try.func12 rfl ?_
  simp only [Try.ntmps12, List.length_cons, List.length_nil, Nat.reduceAdd, Nat.reduceSub, List.replicate, List.cons_append, List.nil_append]
  refine WC_seq ?_
  refine WC_region ?_
  refine WL_rel rfl (rel_box rfl rfl) ?_
  rintro _ _ ⟨b0, rfl, rfl⟩
  dsimp only [put, List.set, ev, nth, List.nil_append, List.cons_append, md, Nat.reducePow, Nat.reduceAdd, Nat.reduceMul]
  refine WL_rel rfl (rel_box rfl rfl) ?_
  rintro _ _ ⟨b1, rfl, rfl⟩
  dsimp only [put, List.set, ev, nth, List.nil_append, List.cons_append, md, Nat.reducePow, Nat.reduceAdd, Nat.reduceMul]
  refine WL_det rfl (det_assign) ?_
  dsimp only [put, List.set, ev, nth, List.nil_append, List.cons_append, md, Nat.reducePow, Nat.reduceAdd, Nat.reduceMul]
  refine WL_nil ?_
  refine WC_seq ?_
  refine WC_seq ?_
  refine WC_region ?_
  refine WL_rel rfl (Rel_call rfl Try.call44 (fun w hw => pawake_spec w)) ?_
  rintro _ _ ⟨rfl, rfl⟩
  dsimp only [put, List.append_nil, List.set, ev, nth, List.nil_append, List.cons_append, md, Nat.reducePow, Nat.reduceAdd, Nat.reduceMul]
  refine WL_det rfl (det_not rfl) ?_
  dsimp only [put, List.set, ev, nth, List.nil_append, List.cons_append, md, Nat.reducePow, Nat.reduceAdd, Nat.reduceMul]
  refine WL_nil ?_
  refine WC_cond_false rfl ?_
  refine WC_skip ?_
  refine WC_seq ?_
  refine WC_seq ?_
  refine WC_region ?_
  refine WL_det rfl (det_move) ?_
  dsimp only [put, List.set, ev, nth, List.nil_append, List.cons_append, md, Nat.reducePow, Nat.reduceAdd, Nat.reduceMul]
  refine WL_det rfl (det_len Try.underlying35 rfl) ?_
  dsimp only [put, List.set, ev, nth, List.nil_append, List.cons_append, md, Nat.reducePow, Nat.reduceAdd, Nat.reduceMul]
  refine WL_det rfl (det_gtr (q := 100) rfl rfl) ?_
  dsimp only [put, List.set, ev, nth, List.nil_append, List.cons_append, md, Nat.reducePow, Nat.reduceAdd, Nat.reduceMul]
  refine WL_nil ?_
  refine WC_cond rfl (fun hc1 => ?_) (fun hc1 => ?_)
  · have hc1 := of_decide_eq_true hc1
    refine WC_seq ?_
    refine WC_region ?_
    refine WL_det rfl (det_assign) ?_
    dsimp only [put, List.set, ev, nth, List.nil_append, List.cons_append, md, Nat.reducePow, Nat.reduceAdd, Nat.reduceMul]
    refine WL_nil ?_
    refine WC_ret ?_
    refine fin_tmp Try.results12 rfl ([]) (List.nil_sublist _) ?_
    exact ⟨rfl, rfl⟩
  · have hc1 := of_decide_eq_false hc1
    refine WC_skip ?_
    refine WC_seq ?_
    refine WC_draw [[], [], [], [], [0, 2, 3], [0, 1, 2, 3, 4]] [4, 5] 88 _ (.cons_cons _ (.cons_cons _ .slnil)) mixed rfl (by decide) ?_
    refine RW.det [] rfl rfl rfl rfl (fun _ => rfl) (fun V hV => Det.rel (det_loadWA 0 Try.underlying75 rfl i75 rfl rfl)) (fun _ _ _ => rfl) ?_
    dsimp only [put, List.set, ev, nth, List.nil_append, List.cons_append, md, Nat.reducePow, Nat.reduceAdd, Nat.reduceMul]
    refine RW.pure rfl rfl (fun _ => rfl) (fun V hV => det_loadWA 1 Try.underlying75 rfl i75 rfl rfl) (fun _ _ _ => rfl) ?_
    dsimp only [put, List.set, ev, nth, List.nil_append, List.cons_append, md, Nat.reducePow, Nat.reduceAdd, Nat.reduceMul]
    refine RW.rel' (R0 := fun _ => IsNew (arr .u8 17 fun _ => 0) 76) [] rfl rfl rfl rfl (fun _ => rfl) rfl (fun V hV => draw_alloc z76 rfl) (fun _ _ _ _ _ h => h) ?_
    dsimp only [put, List.set, ev, nth, List.nil_append, List.cons_append, md, Nat.reducePow, Nat.reduceAdd, Nat.reduceMul]
    refine RW.rel' (R0 := fun _ => IsNew (arr .u8 17 fun _ => 0) 76) [] rfl rfl rfl rfl (fun _ => rfl) rfl (fun V hV => draw_alloc z76 rfl) (fun _ _ _ _ _ h => h) ?_
    dsimp only [put, List.set, ev, nth, List.nil_append, List.cons_append, md, Nat.reducePow, Nat.reduceAdd, Nat.reduceMul]
    refine RW.tail' (B := fun V => _ ++ flat [2, 3] V) rfl rfl rfl rfl (fun _ => rfl) (fun V hV => chg_storeWA 2 Try.sizeOf76 (IsNew.ptr (hV 2 (by decide) _ rfl)) (by have e2 : (V 2).2 = _ := IsNew.mem (hV 2 (by decide) _ rfl); have e3 : (V 3).2 = _ := IsNew.mem (hV 3 (by decide) _ rfl); simp only [flat_cons, flat_nil, e2, e3]; rfl) rfl) (fun V V' hV _ _ h => by simpa only [flat_cons, flat_nil, hV 2 (by decide), hV 3 (by decide)] using h) (fun V hV v m' h => by subst h; exact (.cons_cons _ (.cons_cons _ (List.nil_sublist _)))) ?_
    dsimp only [put, List.set, ev, nth, List.nil_append, List.cons_append, md, Nat.reducePow, Nat.reduceAdd, Nat.reduceMul]
    refine RW.tail' (B := fun V => (V 4).2) rfl rfl rfl rfl (fun _ => rfl) (fun V hV => by have hp : (V 4).2 = _ := hV 4 (by decide) _ rfl; rw [hp]; exact chg_storeWA 3 Try.sizeOf76 (IsNew.ptr (hV 3 (by decide) _ rfl)) (by have e2 : (V 2).2 = _ := IsNew.mem (hV 2 (by decide) _ rfl); have e3 : (V 3).2 = _ := IsNew.mem (hV 3 (by decide) _ rfl); simp only [flat_cons, flat_nil, e2, e3]; rfl) rfl) (fun V V' hV _ _ h => by simpa only [flat_cons, flat_nil, hV 2 (by decide), hV 3 (by decide), hV 4 (by decide)] using h) (fun V hV v m' h => by subst h; exact (.cons_cons _ (.cons_cons _ (List.nil_sublist _)))) ?_
    dsimp only [put, List.set, ev, nth, List.nil_append, List.cons_append, md, Nat.reducePow, Nat.reduceAdd, Nat.reduceMul]
    refine RW.done (fun V => (V 5).2) rfl rfl (fun _ => rfl) (fun V hV => ?_)
    obtain ⟨b2, hp2, hq2⟩ : IsNew _ _ (V 2).1 (V 2).2 := hV 2 _ rfl
    obtain ⟨b3, hp3, hq3⟩ : IsNew _ _ (V 3).1 (V 3).2 := hV 3 _ rfl
    have ht5 : (V 5).2 = _ := hV 5 _ rfl
    simp only [hp2, hq2, hp3, hq3, ht5, flat_cons, flat_nil]
    try dsimp only [put, blk, flat_nil, List.append_nil, List.append, List.eraseIdx, List.set, ev, nth, List.nil_append, List.cons_append, md, Nat.reducePow, Nat.reduceAdd, Nat.reduceMul]
    clear hV hp2 hq2 hp3 hq3 ht5
    refine WC_seq ?_
    refine WC_draw [[], [0], [0, 1], [], [0, 1, 2, 3], [0, 1, 2, 3, 4], [0, 1, 2, 3, 4, 5], [0, 1, 2, 3, 4, 5, 6]] [] 88 [] (List.nil_sublist _) mixed rfl (by decide) ?_
    refine RW.pure rfl rfl (fun _ => rfl) (fun V hV => det_sliceA Try.underlying75 Try.sizeOf5 rfl) (fun _ _ _ => rfl) ?_
    dsimp only [put, List.set, ev, nth, List.nil_append, List.cons_append, md, Nat.reducePow, Nat.reduceAdd, Nat.reduceMul]
    refine RW.rel' (R0 := fun _ v m => ∃ e, RowN .i64 3 9 (dig A) v e ∧ m = [e]) [] rfl rfl rfl rfl (fun _ => rfl) rfl (fun V hV => Rel_call rfl Try.call48 (fun w hw => pdig17 A hA _ w (Rd.arr hw 0 rfl (Nat.le_refl _)))) (fun _ _ _ _ _ h => h) ?_
    dsimp only [put, List.set, ev, nth, List.nil_append, List.cons_append, md, Nat.reducePow, Nat.reduceAdd, Nat.reduceMul]
    refine RW.rel' (R0 := fun _ v m => ∃ e, RowN .i64 3 10 (dig (A % Pp)) v e ∧ m = [e]) [1] rfl rfl rfl rfl (fun _ => rfl) rfl (fun V hV => Rel_call rfl Try.call47 (fun w hw => pmod_dig A 9 (Nat.lt_of_lt_of_le hA (by decide)) (by decide) _ w (Rd.rowNew hw (flat_mem (j := 1) (by decide)) (hV 1 (by decide) _ rfl)))) (fun _ _ _ _ _ h => h) ?_
    dsimp only [put, List.set, ev, nth, List.nil_append, List.cons_append, md, Nat.reducePow, Nat.reduceAdd, Nat.reduceMul]
    refine RW.pure rfl rfl (fun _ => rfl) (fun V hV => det_sliceA Try.underlying75 Try.sizeOf5 rfl) (fun _ _ _ => rfl) ?_
    dsimp only [put, List.set, ev, nth, List.nil_append, List.cons_append, md, Nat.reducePow, Nat.reduceAdd, Nat.reduceMul]
    refine RW.rel' (R0 := fun _ v m => ∃ e, RowN .i64 3 9 (dig N) v e ∧ m = [e]) [] rfl rfl rfl rfl (fun _ => rfl) rfl (fun V hV => Rel_call rfl Try.call48 (fun w hw => pdig17 N hN _ w (Rd.arr hw 1 rfl (Nat.le_refl _)))) (fun _ _ _ _ _ h => h) ?_
    dsimp only [put, List.set, ev, nth, List.nil_append, List.cons_append, md, Nat.reducePow, Nat.reduceAdd, Nat.reduceMul]
    refine RW.rel' (R0 := fun _ v m => ∃ e, RowN .i64 3 10 (dig (N % Pp)) v e ∧ m = [e]) [4] rfl rfl rfl rfl (fun _ => rfl) rfl (fun V hV => Rel_call rfl Try.call47 (fun w hw => pmod_dig N 9 (Nat.lt_of_lt_of_le hN (by decide)) (by decide) _ w (Rd.rowNew hw (flat_mem (j := 4) (by decide)) (hV 4 (by decide) _ rfl)))) (fun _ _ _ _ _ h => h) ?_
    dsimp only [put, List.set, ev, nth, List.nil_append, List.cons_append, md, Nat.reducePow, Nat.reduceAdd, Nat.reduceMul]
    refine RW.pure rfl rfl (fun _ => rfl) (fun V hV => det_assign) (fun V V' hV => by first | rfl | (dsimp only [ev, nth]; simp only [hV 2 (by decide)])) ?_
    dsimp only [put, List.set, ev, nth, List.nil_append, List.cons_append, md, Nat.reducePow, Nat.reduceAdd, Nat.reduceMul]
    refine RW.pure rfl rfl (fun _ => rfl) (fun V hV => det_assign) (fun V V' hV => by first | rfl | (dsimp only [ev, nth]; simp only [hV 5 (by decide)])) ?_
    dsimp only [put, List.set, ev, nth, List.nil_append, List.cons_append, md, Nat.reducePow, Nat.reduceAdd, Nat.reduceMul]
    refine RW.done (fun V => _ ++ flat [1, 2, 4, 5] V) rfl rfl (fun _ => rfl) (fun V hV => ?_)
    obtain ⟨e1, hr1, hq1⟩ : ∃ e, RowN .i64 3 9 (dig A) (V 1).1 e ∧ (V 1).2 = [e] := hV 1 _ rfl
    obtain ⟨v1, hv1⟩ : ∃ v, v = (V 1).1 := ⟨_, rfl⟩
    rw [← hv1] at hr1
    obtain ⟨e2, hr2, hq2⟩ : ∃ e, RowN .i64 3 10 (dig (A % Pp)) (V 2).1 e ∧ (V 2).2 = [e] := hV 2 _ rfl
    obtain ⟨v2, hv2⟩ : ∃ v, v = (V 2).1 := ⟨_, rfl⟩
    rw [← hv2] at hr2
    obtain ⟨e4, hr4, hq4⟩ : ∃ e, RowN .i64 3 9 (dig N) (V 4).1 e ∧ (V 4).2 = [e] := hV 4 _ rfl
    obtain ⟨v4, hv4⟩ : ∃ v, v = (V 4).1 := ⟨_, rfl⟩
    rw [← hv4] at hr4
    obtain ⟨e5, hr5, hq5⟩ : ∃ e, RowN .i64 3 10 (dig (N % Pp)) (V 5).1 e ∧ (V 5).2 = [e] := hV 5 _ rfl
    obtain ⟨v5, hv5⟩ : ∃ v, v = (V 5).1 := ⟨_, rfl⟩
    rw [← hv5] at hr5
    simp only [hq1, ← hv1, hq2, ← hv2, hq4, ← hv4, hq5, ← hv5, flat_cons, flat_nil]
    try dsimp only [put, blk, flat_nil, List.append_nil, List.append, List.eraseIdx, List.set, ev, nth, List.nil_append, List.cons_append, md, Nat.reducePow, Nat.reduceAdd, Nat.reduceMul]
    clear hV
    refine WC_seq ?_
    refine WC_seq ?_
    refine WC_region ?_
    refine WL_det rfl (det_loadWA 2 Try.underlying76 rfl i76 rfl rfl) ?_
    dsimp only [put, List.set, ev, nth, List.nil_append, List.cons_append, md, Nat.reducePow, Nat.reduceAdd, Nat.reduceMul]
    refine WL_rel rfl (Rel_call rfl Try.call49 (fun w hw => nbytes_spec A hA w)) ?_
    rintro _ _ ⟨rfl, rfl⟩
    dsimp only [put, List.append_nil, List.set, ev, nth, List.nil_append, List.cons_append, md, Nat.reducePow, Nat.reduceAdd, Nat.reduceMul]
    refine WL_det rfl (det_move) ?_
    dsimp only [put, List.set, ev, nth, List.nil_append, List.cons_append, md, Nat.reducePow, Nat.reduceAdd, Nat.reduceMul]
    refine WL_rel rfl (Rel_call rfl Try.call50 (fun w hw => pbytes_spec _ _ w (Rd.row hw 5 rfl hr2))) ?_
    rintro _ _ ⟨rfl, rfl⟩
    dsimp only [put, List.append_nil, List.set, ev, nth, List.nil_append, List.cons_append, md, Nat.reducePow, Nat.reduceAdd, Nat.reduceMul]
    refine WL_det rfl (Det.bv false (det_neqA Try.underlying75 Try.sizeOf5 Try.isAgg5 Try.underlying5 Try.eqGuardType75 rfl rfl) (neqA_same fun _ _ => rfl)) ?_
    dsimp only [put, List.set, ev, nth, List.nil_append, List.cons_append, md, Nat.reducePow, Nat.reduceAdd, Nat.reduceMul]
    refine WL_det rfl (det_move) ?_
    dsimp only [put, List.set, ev, nth, List.nil_append, List.cons_append, md, Nat.reducePow, Nat.reduceAdd, Nat.reduceMul]
    refine WL_detG rfl (det_loadWA 2 Try.underlying76 rfl i76 rfl rfl) ?_
    dsimp only [put, List.set, ev, nth, List.nil_append, List.cons_append, md, Nat.reducePow, Nat.reduceAdd, Nat.reduceMul]
    refine WL_detG rfl (det_loadWA 3 Try.underlying76 rfl i76 rfl rfl) ?_
    dsimp only [put, List.set, ev, nth, List.nil_append, List.cons_append, md, Nat.reducePow, Nat.reduceAdd, Nat.reduceMul]
    refine WL_relG rfl (Rel_call rfl Try.call51 (fun w hw => nadd_spec A N hA hN w)) ?_
    rintro _ _ ⟨rfl, rfl⟩
    dsimp only [put, List.append_nil, List.set, ev, nth, List.nil_append, List.cons_append, md, Nat.reducePow, Nat.reduceAdd, Nat.reduceMul]
    refine WL_relG rfl (Rel_call rfl Try.call49 (fun w hw => nbytes_spec _ (P_lt (Nat.mod_lt _ Pp_pos)) w)) ?_
    rintro _ _ ⟨rfl, rfl⟩
    dsimp only [put, List.append_nil, List.set, ev, nth, List.nil_append, List.cons_append, md, Nat.reducePow, Nat.reduceAdd, Nat.reduceMul]
    refine WL_detG rfl (det_move) ?_
    dsimp only [put, List.set, ev, nth, List.nil_append, List.cons_append, md, Nat.reducePow, Nat.reduceAdd, Nat.reduceMul]
    refine WL_detG rfl (det_move) ?_
    dsimp only [put, List.set, ev, nth, List.nil_append, List.cons_append, md, Nat.reducePow, Nat.reduceAdd, Nat.reduceMul]
    refine WL_relG rfl (Rel_call rfl Try.call52 (fun w hw => padd_spec (A % Pp) (N % Pp) (Nat.mod_lt _ Pp_pos) (Nat.mod_lt _ Pp_pos) _ _ w (Rd.row hw 5 rfl hr2) (Rd.row hw 7 rfl hr5))) ?_
    rintro v39 _ ⟨e39, hr39, rfl⟩
    dsimp only [put, List.append_nil, List.set, ev, nth, List.nil_append, List.cons_append, md, Nat.reducePow, Nat.reduceAdd, Nat.reduceMul]
    refine WL_relG rfl (Rel_call rfl Try.call50 (fun w hw => pbytes_spec _ _ w (Rd.row hw 8 rfl hr39))) ?_
    rintro _ _ ⟨rfl, rfl⟩
    dsimp only [put, List.append_nil, List.set, ev, nth, List.nil_append, List.cons_append, md, Nat.reducePow, Nat.reduceAdd, Nat.reduceMul]
    refine WL_detG rfl (Det.bv false (det_neqA Try.underlying75 Try.sizeOf5 Try.isAgg5 Try.underlying5 Try.eqGuardType75 rfl rfl) (neqA_same fun i _ => by rw [Nat.mod_mod])) ?_
    dsimp only [put, List.set, ev, nth, List.nil_append, List.cons_append, md, Nat.reducePow, Nat.reduceAdd, Nat.reduceMul]
    refine WL_det rfl (det_pick_false rfl) ?_
    dsimp only [put, List.set, ev, nth, List.nil_append, List.cons_append, md, Nat.reducePow, Nat.reduceAdd, Nat.reduceMul]
    refine WL_det rfl (det_move) ?_
    dsimp only [put, List.set, ev, nth, List.nil_append, List.cons_append, md, Nat.reducePow, Nat.reduceAdd, Nat.reduceMul]
    refine WL_detG rfl (det_loadWA 2 Try.underlying76 rfl i76 rfl rfl) ?_
    dsimp only [put, List.set, ev, nth, List.nil_append, List.cons_append, md, Nat.reducePow, Nat.reduceAdd, Nat.reduceMul]
    refine WL_detG rfl (det_loadWA 3 Try.underlying76 rfl i76 rfl rfl) ?_
    dsimp only [put, List.set, ev, nth, List.nil_append, List.cons_append, md, Nat.reducePow, Nat.reduceAdd, Nat.reduceMul]
    refine WL_relG rfl (Rel_call rfl Try.call53 (fun w hw => nmul_spec A N hA hN w)) ?_
    rintro _ _ ⟨rfl, rfl⟩
    dsimp only [put, List.append_nil, List.set, ev, nth, List.nil_append, List.cons_append, md, Nat.reducePow, Nat.reduceAdd, Nat.reduceMul]
    refine WL_relG rfl (Rel_call rfl Try.call49 (fun w hw => nbytes_spec _ (P_lt (Nat.mod_lt _ Pp_pos)) w)) ?_
    rintro _ _ ⟨rfl, rfl⟩
    dsimp only [put, List.append_nil, List.set, ev, nth, List.nil_append, List.cons_append, md, Nat.reducePow, Nat.reduceAdd, Nat.reduceMul]
    refine WL_detG rfl (det_move) ?_
    dsimp only [put, List.set, ev, nth, List.nil_append, List.cons_append, md, Nat.reducePow, Nat.reduceAdd, Nat.reduceMul]
    refine WL_detG rfl (det_move) ?_
    dsimp only [put, List.set, ev, nth, List.nil_append, List.cons_append, md, Nat.reducePow, Nat.reduceAdd, Nat.reduceMul]
    refine WL_relG rfl (Rel_call rfl Try.call54 (fun w hw => pmul_spec (A % Pp) (N % Pp) (Nat.mod_lt _ Pp_pos) (Nat.mod_lt _ Pp_pos) _ _ w (Rd.row hw 5 rfl hr2) (Rd.row hw 7 rfl hr5))) ?_
    rintro v50 _ ⟨e50, hr50, rfl⟩
    dsimp only [put, List.append_nil, List.set, ev, nth, List.nil_append, List.cons_append, md, Nat.reducePow, Nat.reduceAdd, Nat.reduceMul]
    refine WL_relG rfl (Rel_call rfl Try.call50 (fun w hw => pbytes_spec _ _ w (Rd.row hw 9 rfl hr50))) ?_
    rintro _ _ ⟨rfl, rfl⟩
    dsimp only [put, List.append_nil, List.set, ev, nth, List.nil_append, List.cons_append, md, Nat.reducePow, Nat.reduceAdd, Nat.reduceMul]
    refine WL_detG rfl (Det.bv false (det_neqA Try.underlying75 Try.sizeOf5 Try.isAgg5 Try.underlying5 Try.eqGuardType75 rfl rfl) (neqA_same fun i _ => by rw [Nat.mod_mod])) ?_
    dsimp only [put, List.set, ev, nth, List.nil_append, List.cons_append, md, Nat.reducePow, Nat.reduceAdd, Nat.reduceMul]
    refine WL_det rfl (det_pick_false rfl) ?_
    dsimp only [put, List.set, ev, nth, List.nil_append, List.cons_append, md, Nat.reducePow, Nat.reduceAdd, Nat.reduceMul]
    refine WL_nil ?_
    refine WC_cond_false rfl ?_
    refine WC_skip ?_
    refine WC_seq ?_
    refine WC_region ?_
    refine WL_det rfl (det_arrTo (h := 16) Try.underlying75 Try.sizeOf5 rfl rfl (by decide)) ?_
    dsimp only [put, List.set, ev, nth, List.nil_append, List.cons_append, md, Nat.reducePow, Nat.reduceAdd, Nat.reduceMul]
    refine WL_det rfl (det_arrayAt Try.underlying71 rfl (by decide)) ?_
    dsimp only [put, List.set, ev, nth, List.nil_append, List.cons_append, md, Nat.reducePow, Nat.reduceAdd, Nat.reduceMul]
    refine WL_det rfl (det_loadPart0 0 Try.underlying71 i71 rfl rfl (by decide)) ?_
    dsimp only [put, List.set, ev, nth, List.nil_append, List.cons_append, md, Nat.reducePow, Nat.reduceAdd, Nat.reduceMul]
    refine WL_rel rfl (Rel_call rfl Try.call55 (fun w hw => clamp_spec (byt A) (fun i _ => byt_lt A i) w)) ?_
    rintro _ _ ⟨rfl, rfl⟩
    dsimp only [put, List.append_nil, List.set, ev, nth, List.nil_append, List.cons_append, md, Nat.reducePow, Nat.reduceAdd, Nat.reduceMul]
    refine WL_rel rfl (rel_alloc z71 rfl) ?_
    rintro _ _ ⟨b10, rfl, rfl⟩
    dsimp only [put, List.set, ev, nth, List.nil_append, List.cons_append, md, Nat.reducePow, Nat.reduceAdd, Nat.reduceMul]
    refine WL_chg rfl (chg_storeWA 10 Try.sizeOf71 rfl rfl rfl) ?_
    rintro _ _ rfl
    dsimp only [put, List.set, ev, nth, List.nil_append, List.cons_append, md, Nat.reducePow, Nat.reduceAdd, Nat.reduceMul]
    refine WL_nil ?_
    refine WC_seq ?_
    refine WC_seq ?_
    refine WC_draw [[], [], [1], [0, 1, 2], [0, 1, 2, 3]] [] 88 [] (List.nil_sublist _) mixed rfl (by decide) ?_
    refine RW.pure rfl rfl (fun _ => rfl) (fun V hV => det_sliceA Try.underlying71 Try.sizeOf5 rfl) (fun _ _ _ => rfl) ?_
    dsimp only [put, List.set, ev, nth, List.nil_append, List.cons_append, md, Nat.reducePow, Nat.reduceAdd, Nat.reduceMul]
    refine RW.pure rfl rfl (fun _ => rfl) (fun V hV => det_arrTo (h := 16) Try.underlying75 Try.sizeOf5 rfl rfl (by decide)) (fun _ _ _ => rfl) ?_
    dsimp only [put, List.set, ev, nth, List.nil_append, List.cons_append, md, Nat.reducePow, Nat.reduceAdd, Nat.reduceMul]
    refine RW.rel' (R0 := fun _ v m => ∃ e, RowN .u8 5 16 (clf (byt A)) v e ∧ m = [e]) [] rfl rfl rfl rfl (fun _ => rfl) rfl (fun V hV => Rel_call rfl Try.call56 (fun w hw => rclamp_spec (byt A) (fun i _ => byt_lt A i) _ w (Rd.arr hw 0 rfl (by decide)))) (fun _ _ _ _ _ h => h) ?_
    dsimp only [put, List.set, ev, nth, List.nil_append, List.cons_append, md, Nat.reducePow, Nat.reduceAdd, Nat.reduceMul]
    refine RW.det [2] rfl rfl rfl rfl (fun _ => rfl) (fun V hV => Rel_call rfl Try.call20 (fun w hw => same_true 16 (clf (byt A)) (clf (byt A)) (fun _ _ => rfl) (by decide) _ _ w (Rd.arr hw 10 rfl (Nat.le_refl _)) (Rd.rowNew hw (flat_mem (j := 2) (by decide)) (hV 2 (by decide) _ rfl)))) (fun _ _ _ => rfl) ?_
    dsimp only [put, List.set, ev, nth, List.nil_append, List.cons_append, md, Nat.reducePow, Nat.reduceAdd, Nat.reduceMul]
    refine RW.pure rfl rfl (fun _ => rfl) (fun V hV => det_not rfl) (fun _ _ _ => rfl) ?_
    dsimp only [put, List.set, ev, nth, List.nil_append, List.cons_append, md, Nat.reducePow, Nat.reduceAdd, Nat.reduceMul]
    refine RW.done (fun V => _ ++ flat [2] V) rfl rfl (fun _ => rfl) (fun V hV => ?_)
    obtain ⟨e2, hr2, hq2⟩ : ∃ e, RowN .u8 5 16 (clf (byt A)) (V 2).1 e ∧ (V 2).2 = [e] := hV 2 _ rfl
    obtain ⟨v2, hv2⟩ : ∃ v, v = (V 2).1 := ⟨_, rfl⟩
    rw [← hv2] at hr2
    simp only [hq2, ← hv2, flat_cons, flat_nil]
    try dsimp only [put, blk, flat_nil, List.append_nil, List.append, List.eraseIdx, List.set, ev, nth, List.nil_append, List.cons_append, md, Nat.reducePow, Nat.reduceAdd, Nat.reduceMul]
    clear hV
    refine WC_cond_false rfl ?_
    refine WC_skip ?_
    refine WC_seq ?_
    refine WC_region ?_
    refine WL_det rfl (det_move) ?_
    dsimp only [put, List.set, ev, nth, List.nil_append, List.cons_append, md, Nat.reducePow, Nat.reduceAdd, Nat.reduceMul]
    refine WL_rel rfl (Rel_call rfl Try.call57 (fun w hw => pof_large n p1 c1 (by omega) w)) ?_
    rintro _ _ ⟨rfl, rfl⟩
    dsimp only [put, List.append_nil, List.set, ev, nth, List.nil_append, List.cons_append, md, Nat.reducePow, Nat.reduceAdd, Nat.reduceMul]
    refine WL_det rfl (det_move) ?_
    dsimp only [put, List.set, ev, nth, List.nil_append, List.cons_append, md, Nat.reducePow, Nat.reduceAdd, Nat.reduceMul]
    refine WL_det rfl (det_extract rfl rfl) ?_
    dsimp only [put, List.set, ev, nth, List.nil_append, List.cons_append, md, Nat.reducePow, Nat.reduceAdd, Nat.reduceMul]
    refine WL_det rfl (det_extract rfl rfl) ?_
    dsimp only [put, List.set, ev, nth, List.nil_append, List.cons_append, md, Nat.reducePow, Nat.reduceAdd, Nat.reduceMul]
    refine WL_rel rfl (rel_alloc z76 rfl) ?_
    rintro _ _ ⟨b12, rfl, rfl⟩
    dsimp only [put, List.set, ev, nth, List.nil_append, List.cons_append, md, Nat.reducePow, Nat.reduceAdd, Nat.reduceMul]
    refine WL_chg rfl (chg_storeWA 12 Try.sizeOf76 rfl rfl rfl) ?_
    rintro _ _ rfl
    dsimp only [put, List.set, ev, nth, List.nil_append, List.cons_append, md, Nat.reducePow, Nat.reduceAdd, Nat.reduceMul]
    refine WL_det rfl (det_assign) ?_
    dsimp only [put, List.set, ev, nth, List.nil_append, List.cons_append, md, Nat.reducePow, Nat.reduceAdd, Nat.reduceMul]
    refine WL_nil ?_
    refine WC_seq ?_
    refine WC_seq ?_
    refine WC_region ?_
    refine WL_det rfl (det_move) ?_
    dsimp only [put, List.set, ev, nth, List.nil_append, List.cons_append, md, Nat.reducePow, Nat.reduceAdd, Nat.reduceMul]
    refine WL_det rfl (det_len Try.underlying35 rfl) ?_
    dsimp only [put, List.set, ev, nth, List.nil_append, List.cons_append, md, Nat.reducePow, Nat.reduceAdd, Nat.reduceMul]
    refine WL_det rfl (det_gtr (q := 17) rfl rfl) ?_
    dsimp only [put, List.set, ev, nth, List.nil_append, List.cons_append, md, Nat.reducePow, Nat.reduceAdd, Nat.reduceMul]
    refine WL_nil ?_
    refine WC_cond rfl (fun hc4 => ?_) (fun hc4 => ?_)
    · have hc4 := of_decide_eq_true hc4
      refine WC_seq ?_
      refine WC_region ?_
      refine WL_det rfl (det_move) ?_
      dsimp only [put, List.set, ev, nth, List.nil_append, List.cons_append, md, Nat.reducePow, Nat.reduceAdd, Nat.reduceMul]
      refine WL_det rfl (Det.bv true (det_eql (q := 3) rfl rfl) (rfl)) ?_
      dsimp only [put, List.set, ev, nth, List.nil_append, List.cons_append, md, Nat.reducePow, Nat.reduceAdd, Nat.reduceMul]
      refine WL_det rfl (det_move) ?_
      dsimp only [put, List.set, ev, nth, List.nil_append, List.cons_append, md, Nat.reducePow, Nat.reduceAdd, Nat.reduceMul]
      refine WL_detG rfl (det_loadWA 12 Try.underlying76 rfl i76 rfl rfl) ?_
      dsimp only [put, List.set, ev, nth, List.nil_append, List.cons_append, md, Nat.reducePow, Nat.reduceAdd, Nat.reduceMul]
      refine WL_detG (v := .agg (arr .u8 17 (byt 0))) rfl (fun w _ => by kernel_rfl) ?_
      dsimp only [put, List.set, ev, nth, List.nil_append, List.cons_append, md, Nat.reducePow, Nat.reduceAdd, Nat.reduceMul]
      refine WL_detG rfl (Det.bv true (det_eqlA Try.underlying76 Try.sizeOf5 Try.isAgg5 Try.underlying5 Try.eqGuardType76 rfl rfl) (eqA_same fun _ _ => rfl)) ?_
      dsimp only [put, List.set, ev, nth, List.nil_append, List.cons_append, md, Nat.reducePow, Nat.reduceAdd, Nat.reduceMul]
      refine WL_det rfl (det_pick_true rfl) ?_
      dsimp only [put, List.set, ev, nth, List.nil_append, List.cons_append, md, Nat.reducePow, Nat.reduceAdd, Nat.reduceMul]
      refine WL_det rfl (det_assign) ?_
      dsimp only [put, List.set, ev, nth, List.nil_append, List.cons_append, md, Nat.reducePow, Nat.reduceAdd, Nat.reduceMul]
      refine WL_nil ?_
      refine WC_ret ?_
      refine fin_tmp Try.results12 rfl ([]) (List.nil_sublist _) ?_
      exact ⟨rfl, rfl⟩
    · have hc4 := of_decide_eq_false hc4
      exact absurd hc4 (by omega)

end Go.Proofs.Ytpmldkhgdpchjaa
