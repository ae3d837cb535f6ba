/- Walks of the Go functions, printed by a program of this claim. Conditions: none. -/
import Derived.Test.YtpmldkhgdpchjaaS11
set_option linter.unusedVariables false
namespace Go.Proofs.Ytpmldkhgdpchjaa
open Go.MW
set_option maxRecDepth 100000 in
set_option maxHeartbeats 400000 in
theorem reduced_spec (f : Nat → Nat) (hf : ∀ i, i < 17 → f i ≤ 1000000000) (w : World) :
    Calls Try.prog 77 [.agg (arr .u32 17 f)].toArray w (PostV w (.agg (arr .u32 17 (byt (lev f 17 % Pp))))) := by
  have hX1 := fold_lt f hf
  obtain ⟨X, hX⟩ : ∃ X, X = fold (fold (lev f 17)) := ⟨_, rfl⟩
  have hX2 : X < 2 ^ 130 := by rw [hX]; exact fold2_lt hX1
  have hXm : X % Pp = lev f 17 % Pp := by rw [hX, fold_mod, fold_mod]
  have hXt : ∀ i, i < 17 → pt X i ≤ 1000000000 := fun i _ => pt_le (M := 1000000000) (by omega) (by decide)
  refine calls_of_WC Try.func77 rfl ?_
  simp only [Try.ntmps77, List.length_cons, List.length_nil, Nat.reduceAdd, Nat.reduceSub, List.replicate, List.cons_append, List.nil_append]
  refine WC_seq ?_
  refine WC_region ?_
  refine WL_rel rfl (rel_box rfl rfl) ?_
  rintro _ _ ⟨b0, rfl, rfl⟩
  dsimp only [put, List.set, ev, nth, List.nil_append, List.cons_append, md, Nat.reducePow, Nat.reduceAdd, Nat.reduceMul]
  refine WL_rel rfl (rel_alloc z112 rfl) ?_
  rintro _ _ ⟨b1, rfl, rfl⟩
  dsimp only [put, List.set, ev, nth, List.nil_append, List.cons_append, md, Nat.reducePow, Nat.reduceAdd, Nat.reduceMul]
  refine WL_nil ?_
  refine WC_seq ?_
  refine WC_region ?_
  refine WL_det rfl (det_loadWA 0 Try.underlying112 rfl i112 rfl rfl) ?_
  dsimp only [put, List.set, ev, nth, List.nil_append, List.cons_append, md, Nat.reducePow, Nat.reduceAdd, Nat.reduceMul]
  refine WL_rel rfl (Rel_call rfl Try.call90 (fun w hw => carry_spec f hf w)) ?_
  rintro _ _ ⟨rfl, rfl⟩
  dsimp only [put, List.append_nil, List.set, ev, nth, List.nil_append, List.cons_append, md, Nat.reducePow, Nat.reduceAdd, Nat.reduceMul]
  refine WL_rel rfl (Rel_call rfl Try.call90 (fun w hw => carry_spec (pt (fold (lev f 17))) (fun i _ => pt_le (M := 1000000000) (by have := top_le hX1; omega) (by decide)) w)) ?_
  rintro _ _ ⟨rfl, rfl⟩
  dsimp only [put, List.append_nil, List.set, ev, nth, List.nil_append, List.cons_append, md, Nat.reducePow, Nat.reduceAdd, Nat.reduceMul]
  rw [lev_pt, ← hX]
  refine WL_chg rfl (chg_storeWA 0 Try.sizeOf112 rfl rfl rfl) ?_
  rintro _ _ rfl
  dsimp only [put, List.set, ev, nth, List.nil_append, List.cons_append, md, Nat.reducePow, Nat.reduceAdd, Nat.reduceMul]
  refine WL_nil ?_
  refine WC_seq ?_
  refine WC_region ?_
  refine WL_det rfl (det_loadWA 0 Try.underlying112 rfl i112 rfl rfl) ?_
  dsimp only [put, List.set, ev, nth, List.nil_append, List.cons_append, md, Nat.reducePow, Nat.reduceAdd, Nat.reduceMul]
  refine WL_det (v := .agg (arr .u32 17 lp)) rfl (fun w _ => by kernel_rfl) ?_
  dsimp only [put, List.set, ev, nth, List.nil_append, List.cons_append, md, Nat.reducePow, Nat.reduceAdd, Nat.reduceMul]
  refine WL_rel rfl (Rel_call rfl Try.call78 (fun w hw => sum_spec (pt X) lp hXt (fun i _ => by have := lp_le i; omega) w)) ?_
  rintro _ _ ⟨rfl, rfl⟩
  dsimp only [put, List.append_nil, List.set, ev, nth, List.nil_append, List.cons_append, md, Nat.reducePow, Nat.reduceAdd, Nat.reduceMul]
  rw [lev_pt, show lev lp 17 = cP from lev_lp]
  refine WL_rel rfl (rel_alloc z112 rfl) ?_
  rintro _ _ ⟨b2, rfl, rfl⟩
  dsimp only [put, List.set, ev, nth, List.nil_append, List.cons_append, md, Nat.reducePow, Nat.reduceAdd, Nat.reduceMul]
  refine WL_chg rfl (chg_storeWA 2 Try.sizeOf112 rfl rfl rfl) ?_
  rintro _ _ rfl
  dsimp only [put, List.set, ev, nth, List.nil_append, List.cons_append, md, Nat.reducePow, Nat.reduceAdd, Nat.reduceMul]
  refine WL_nil ?_
  refine WC_seq ?_
  refine WC_seq ?_
  refine WC_region ?_
  refine WL_det rfl (det_idxA (j := 16) Try.underlying112 Try.sizeOf24 rfl rfl (rfl) (by omega)) ?_
  dsimp only [put, List.set, ev, nth, List.nil_append, List.cons_append, md, Nat.reducePow, Nat.reduceAdd, Nat.reduceMul]
  refine WL_det rfl (det_loadA 2 Try.isAgg24 rfl rfl (by omega)) ?_
  dsimp only [put, List.set, ev, nth, List.nil_append, List.cons_append, md, Nat.reducePow, Nat.reduceAdd, Nat.reduceMul]
  have hb16 := byt_lt (X + cP) 16
  refine WL_det rfl (det_and (q := 128) rfl rfl rfl (by simp only [md]; first | omega | exact Nat.or_lt_two_pow (n := 32) (by omega) (by omega) | exact Nat.lt_of_le_of_lt Nat.and_le_left (by omega) | exact Nat.lt_of_le_of_lt Nat.and_le_right (by omega) | exact Nat.xor_lt_two_pow (n := 32) (by omega) (by omega)) (by simp only [md]; first | omega | exact Nat.or_lt_two_pow (n := 32) (by omega) (by omega) | exact Nat.lt_of_le_of_lt Nat.and_le_left (by omega) | exact Nat.lt_of_le_of_lt Nat.and_le_right (by omega) | exact Nat.xor_lt_two_pow (n := 32) (by omega) (by omega))) ?_
  dsimp only [put, List.set, ev, nth, List.nil_append, List.cons_append, md, Nat.reducePow, Nat.reduceAdd, Nat.reduceMul]
  refine WL_det rfl (det_eql (q := 0) rfl rfl) ?_
  dsimp only [put, List.set, ev, nth, List.nil_append, List.cons_append, md, Nat.reducePow, Nat.reduceAdd, Nat.reduceMul]
  refine WL_nil ?_
  refine WC_cond rfl (fun hc0 => ?_) (fun hc0 => ?_)
  · have hc0 := of_decide_eq_true hc0
    have hge : Pp ≤ X := by have h1 := and128 _ hb16; rw [decide_eq_true hc0] at h1; have h2 := h1.trans (red_top hX2); exact of_decide_eq_true h2.symm
    rw [arr_congr (f := byt (X + cP)) (g := byt (X % Pp)) (red_ge hX2 hge), hXm]
    refine WC_seq ?_
    refine WC_region ?_
    refine WL_det rfl (det_loadWA 2 Try.underlying112 rfl i112 rfl rfl) ?_
    dsimp only [put, List.set, ev, nth, List.nil_append, List.cons_append, md, Nat.reducePow, Nat.reduceAdd, Nat.reduceMul]
    refine WL_chg rfl (chg_storeWA 1 Try.sizeOf112 rfl rfl rfl) ?_
    rintro _ _ rfl
    dsimp only [put, List.set, ev, nth, List.nil_append, List.cons_append, md, Nat.reducePow, Nat.reduceAdd, Nat.reduceMul]
    refine WL_nil ?_
    refine WC_ret ?_
    refine fin_cell 1 Try.results77 rfl rfl Try.underlying112 rfl i112 (arr_size _ _ _) ([]) (List.nil_sublist _) ?_
    exact ⟨rfl, rfl⟩
  · have hc0 := of_decide_eq_false hc0
    have hlt : ¬ Pp ≤ X := by have h1 := and128 _ hb16; rw [decide_eq_false hc0] at h1; have h2 := h1.trans (red_top hX2); exact of_decide_eq_false h2.symm
    rw [arr_congr (f := pt X) (g := byt (X % Pp)) (fun i hi => by rw [Nat.mod_eq_of_lt (by omega)]; exact pt_byt hX2 i hi), hXm]
    refine WC_skip ?_
    refine WC_seq ?_
    refine WC_region ?_
    refine WL_det rfl (det_loadWA 0 Try.underlying112 rfl i112 rfl rfl) ?_
    dsimp only [put, List.set, ev, nth, List.nil_append, List.cons_append, md, Nat.reducePow, Nat.reduceAdd, Nat.reduceMul]
    refine WL_chg rfl (chg_storeWA 1 Try.sizeOf112 rfl rfl rfl) ?_
    rintro _ _ rfl
    dsimp only [put, List.set, ev, nth, List.nil_append, List.cons_append, md, Nat.reducePow, Nat.reduceAdd, Nat.reduceMul]
    refine WL_nil ?_
    refine WC_ret ?_
    refine fin_cell 1 Try.results77 rfl rfl Try.underlying112 rfl i112 (arr_size _ _ _) ([]) (List.nil_sublist _) ?_
    exact ⟨rfl, rfl⟩

set_option maxRecDepth 100000 in
set_option maxHeartbeats 400000 in
theorem product_spec (f g : Nat → Nat) (hf : ∀ i, i < 17 → f i ≤ 600) (hg : ∀ i, g i ≤ 255) (w : World) :
    Calls Try.prog 76 [.agg (arr .u32 17 f), .agg (arr .u32 17 g)].toArray w (PostV w (.agg (arr .u32 17 (pt (fold (lev (fun p => prd f g p 17) 17)))))) := by
  refine calls_of_WC Try.func76 rfl ?_
  simp only [Try.ntmps76, List.length_cons, List.length_nil, Nat.reduceAdd, Nat.reduceSub, List.replicate, List.cons_append, List.nil_append]
  refine WC_seq ?_
  refine WC_region ?_
  refine WL_rel rfl (rel_box rfl rfl) ?_
  rintro _ _ ⟨b0, rfl, rfl⟩
  dsimp only [put, List.set, ev, nth, List.nil_append, List.cons_append, md, Nat.reducePow, Nat.reduceAdd, Nat.reduceMul]
  refine WL_rel rfl (rel_box rfl rfl) ?_
  rintro _ _ ⟨b1, rfl, rfl⟩
  dsimp only [put, List.set, ev, nth, List.nil_append, List.cons_append, md, Nat.reducePow, Nat.reduceAdd, Nat.reduceMul]
  refine WL_rel rfl (rel_alloc z112 rfl) ?_
  rintro _ _ ⟨b2, rfl, rfl⟩
  dsimp only [put, List.set, ev, nth, List.nil_append, List.cons_append, md, Nat.reducePow, Nat.reduceAdd, Nat.reduceMul]
  refine WL_nil ?_
  refine WC_seq ?_
  refine WC_region ?_
  refine WL_rel rfl (rel_alloc z112 rfl) ?_
  rintro _ _ ⟨b3, rfl, rfl⟩
  dsimp only [put, List.set, ev, nth, List.nil_append, List.cons_append, md, Nat.reducePow, Nat.reduceAdd, Nat.reduceMul]
  refine WL_nil ?_
  refine WC_seq ?_
  refine WC_seq ?_
  refine WC_region ?_
  refine WL_det rfl (det_move) ?_
  dsimp only [put, List.set, ev, nth, List.nil_append, List.cons_append, md, Nat.reducePow, Nat.reduceAdd, Nat.reduceMul]
  refine WL_nil ?_
  refine WC_block ?_
  refine WC_loopS (ι := Nat) [10, 11, 6, 12, 13, 14, 15, 16, 7, 8, 17, 18, 19, 20, 21, 22, 23, 24, 25, 26, 27, 28, 29, 30, 31, 32, 33, 34, 35, 36, 37, 38, 39, 40, 41, 42, 43, 44, 45, 46, 47] (fun i => [(9, vn .i64 (i))]) (fun i => [(3, (some b3, .cells (arr .u32 17 (pf f g i 0)) 112 (0, 0)))]) (fun i => i ≤ 17) (fun i => 17 - i) 0 ?_ ?_ ?_ ?_
  · rfl
  · rw [pf_zero]
    try rfl
  · exact (by omega)
  · intro i g' hI
    dsimp only [setAll, setG, setM, List.set]
    refine WC_seq ?_
    refine WC_region ?_
    refine WL_det rfl (det_lss (q := 17) rfl rfl) ?_
    dsimp only [put, List.set, ev, nth, List.nil_append, List.cons_append, md, Nat.reducePow, Nat.reduceAdd, Nat.reduceMul]
    refine WL_nil ?_
    refine WC_seq ?_
    refine WC_cond rfl (fun hc0 => ?_) (fun hc0 => ?_)
    · have hc0 := of_decide_eq_true hc0
      refine WC_skip ?_
      refine WC_seq ?_
      refine WC_block ?_
      refine WC_seq ?_
      refine WC_region ?_
      refine WL_det rfl (det_move) ?_
      dsimp only [put, List.set, ev, nth, List.nil_append, List.cons_append, md, Nat.reducePow, Nat.reduceAdd, Nat.reduceMul]
      refine WL_det rfl (det_assign) ?_
      dsimp only [put, List.set, ev, nth, List.nil_append, List.cons_append, md, Nat.reducePow, Nat.reduceAdd, Nat.reduceMul]
      refine WL_nil ?_
      refine WC_seq ?_
      refine WC_region ?_
      refine WL_det rfl (det_loadWA 0 Try.underlying112 rfl i112 rfl rfl) ?_
      dsimp only [put, List.set, ev, nth, List.nil_append, List.cons_append, md, Nat.reducePow, Nat.reduceAdd, Nat.reduceMul]
      refine WL_det rfl (det_move) ?_
      dsimp only [put, List.set, ev, nth, List.nil_append, List.cons_append, md, Nat.reducePow, Nat.reduceAdd, Nat.reduceMul]
      refine WL_nil ?_
      refine WC_block ?_
      refine WC_loopS (ι := Nat) [14, 15, 16, 7, 8, 17, 18, 19, 20, 21, 22, 23, 24, 25, 26, 27, 28, 29, 30, 31, 32, 33, 34, 35, 36, 37, 38, 39, 40, 41, 42, 43, 44, 45, 46] (fun j => [(13, vn .i64 (j))]) (fun j => [(3, (some b3, .cells (arr .u32 17 (pf f g i j)) 112 (0, 0)))]) (fun j => j ≤ 17) (fun j => 17 - j) 0 ?_ ?_ ?_ ?_
      · rfl
      · rfl
      · exact (by omega)
      · intro j g' hI
        dsimp only [setAll, setG, setM, List.set]
        have hpb : pf f g i j i ≤ j * 48960000 := by rw [pf_at]; exact prd_le f g i j hf hg (by omega)
        refine WC_seq ?_
        refine WC_region ?_
        refine WL_det rfl (det_lss (q := 17) rfl rfl) ?_
        dsimp only [put, List.set, ev, nth, List.nil_append, List.cons_append, md, Nat.reducePow, Nat.reduceAdd, Nat.reduceMul]
        refine WL_nil ?_
        refine WC_seq ?_
        refine WC_cond rfl (fun hc1 => ?_) (fun hc1 => ?_)
        · have hc1 := of_decide_eq_true hc1
          refine WC_skip ?_
          refine WC_seq ?_
          refine WC_block ?_
          refine WC_seq ?_
          refine WC_region ?_
          refine WL_det rfl (det_move) ?_
          dsimp only [put, List.set, ev, nth, List.nil_append, List.cons_append, md, Nat.reducePow, Nat.reduceAdd, Nat.reduceMul]
          refine WL_det rfl (det_index Try.underlying112 Try.sizeOf24 Try.isAgg24 rfl rfl rfl (by omega)) ?_
          dsimp only [put, List.set, ev, nth, List.nil_append, List.cons_append, md, Nat.reducePow, Nat.reduceAdd, Nat.reduceMul]
          refine WL_det rfl (det_assign) ?_
          dsimp only [put, List.set, ev, nth, List.nil_append, List.cons_append, md, Nat.reducePow, Nat.reduceAdd, Nat.reduceMul]
          refine WL_det rfl (det_assign) ?_
          dsimp only [put, List.set, ev, nth, List.nil_append, List.cons_append, md, Nat.reducePow, Nat.reduceAdd, Nat.reduceMul]
          refine WL_nil ?_
          refine WC_seq ?_
          refine WC_region ?_
          refine WL_det rfl (det_move) ?_
          dsimp only [put, List.set, ev, nth, List.nil_append, List.cons_append, md, Nat.reducePow, Nat.reduceAdd, Nat.reduceMul]
          refine WL_det rfl (det_move) ?_
          dsimp only [put, List.set, ev, nth, List.nil_append, List.cons_append, md, Nat.reducePow, Nat.reduceAdd, Nat.reduceMul]
          refine WL_det rfl (det_leq rfl rfl) ?_
          dsimp only [put, List.set, ev, nth, List.nil_append, List.cons_append, md, Nat.reducePow, Nat.reduceAdd, Nat.reduceMul]
          refine WL_nil ?_
          refine WC_cond rfl (fun hc2 => ?_) (fun hc2 => ?_)
          · have hc2 := of_decide_eq_true hc2
            have hm1 : f j * g (i - j) ≤ 600 * 255 := Nat.mul_le_mul (hf j (by omega)) (hg _)
            refine WC_draw [[], [0], [0, 1], [], [], [], [4, 5], [4, 5, 6], [4, 5, 6, 7], [3, 4, 5, 6, 7, 8], [0, 1, 2, 3, 4, 5, 6, 7, 8, 9], [0, 1, 2, 3, 4, 5, 6, 7, 8, 9, 10], [0, 1, 2, 3, 4, 5, 6, 7, 8, 9, 10, 11]] [12] 50 [] (List.nil_sublist _) mixed rfl (by decide) ?_
            refine RW.pure rfl rfl (fun _ => rfl) (fun V hV => det_move) (fun _ _ _ => rfl) ?_
            dsimp only [put, List.set, ev, nth, List.nil_append, List.cons_append, md, Nat.reducePow, Nat.reduceAdd, Nat.reduceMul]
            refine RW.pure rfl rfl (fun _ => rfl) (fun V hV => det_idxA Try.underlying112 Try.sizeOf24 rfl rfl (rfl) (by omega)) (fun _ _ _ => rfl) ?_
            dsimp only [put, List.set, ev, nth, List.nil_append, List.cons_append, md, Nat.reducePow, Nat.reduceAdd, Nat.reduceMul]
            refine RW.det [] rfl rfl rfl rfl (fun _ => rfl) (fun V hV => Det.rel (det_loadA 3 Try.isAgg24 rfl rfl (by omega))) (fun _ _ _ => rfl) ?_
            dsimp only [put, List.set, ev, nth, List.nil_append, List.cons_append, md, Nat.reducePow, Nat.reduceAdd, Nat.reduceMul]
            refine RW.pure rfl rfl (fun _ => rfl) (fun V hV => det_move) (fun _ _ _ => rfl) ?_
            dsimp only [put, List.set, ev, nth, List.nil_append, List.cons_append, md, Nat.reducePow, Nat.reduceAdd, Nat.reduceMul]
            refine RW.pure rfl rfl (fun _ => rfl) (fun V hV => det_move) (fun _ _ _ => rfl) ?_
            dsimp only [put, List.set, ev, nth, List.nil_append, List.cons_append, md, Nat.reducePow, Nat.reduceAdd, Nat.reduceMul]
            refine RW.pure rfl rfl (fun _ => rfl) (fun V hV => det_move) (fun _ _ _ => rfl) ?_
            dsimp only [put, List.set, ev, nth, List.nil_append, List.cons_append, md, Nat.reducePow, Nat.reduceAdd, Nat.reduceMul]
            refine RW.pure rfl rfl (fun _ => rfl) (fun V hV => det_subi rfl rfl (by omega) (by omega)) (fun _ _ _ => rfl) ?_
            dsimp only [put, List.set, ev, nth, List.nil_append, List.cons_append, md, Nat.reducePow, Nat.reduceAdd, Nat.reduceMul]
            refine RW.pure rfl rfl (fun _ => rfl) (fun V hV => det_idxA Try.underlying112 Try.sizeOf24 rfl rfl (rfl) (by omega)) (fun _ _ _ => rfl) ?_
            dsimp only [put, List.set, ev, nth, List.nil_append, List.cons_append, md, Nat.reducePow, Nat.reduceAdd, Nat.reduceMul]
            refine RW.det [] rfl rfl rfl rfl (fun _ => rfl) (fun V hV => Det.rel (det_loadA 1 Try.isAgg24 rfl rfl (by omega))) (fun _ _ _ => rfl) ?_
            dsimp only [put, List.set, ev, nth, List.nil_append, List.cons_append, md, Nat.reducePow, Nat.reduceAdd, Nat.reduceMul]
            refine RW.pure rfl rfl (fun _ => rfl) (fun V hV => det_mul' rfl rfl rfl (by simp only [md]; omega)) (fun _ _ _ => rfl) ?_
            dsimp only [put, List.set, ev, nth, List.nil_append, List.cons_append, md, Nat.reducePow, Nat.reduceAdd, Nat.reduceMul]
            refine RW.pure rfl rfl (fun _ => rfl) (fun V hV => det_add' rfl rfl rfl (by simp only [md]; omega)) (fun _ _ _ => rfl) ?_
            dsimp only [put, List.set, ev, nth, List.nil_append, List.cons_append, md, Nat.reducePow, Nat.reduceAdd, Nat.reduceMul]
            refine RW.pure rfl rfl (fun _ => rfl) (fun V hV => det_idxA Try.underlying112 Try.sizeOf24 rfl rfl (rfl) (by omega)) (fun _ _ _ => rfl) ?_
            dsimp only [put, List.set, ev, nth, List.nil_append, List.cons_append, md, Nat.reducePow, Nat.reduceAdd, Nat.reduceMul]
            refine RW.tail' (B := fun V => _ ++ flat [] V) rfl rfl rfl rfl (fun _ => rfl) (fun V hV => chg_storeA 3 Try.sizeOf24 rfl rfl (by omega) rfl) (fun _ _ _ _ _ h => h) (fun _ _ _ _ _ => List.nil_sublist _) ?_
            dsimp only [put, List.set, ev, nth, List.nil_append, List.cons_append, md, Nat.reducePow, Nat.reduceAdd, Nat.reduceMul]
            refine RW.done (fun V => (V 12).2) rfl rfl (fun _ => rfl) (fun V hV => ?_)
            have ht12 : (V 12).2 = _ := hV 12 _ rfl
            simp only [ht12, flat_nil]
            try dsimp only [put, blk, flat_nil, List.append_nil, List.append, List.eraseIdx, List.set, ev, nth, List.nil_append, List.cons_append, md, Nat.reducePow, Nat.reduceAdd, Nat.reduceMul]
            clear hV ht12
            refine WC_region ?_
            refine WL_det rfl (det_addi (q := 1) rfl rfl (by omega)) ?_
            dsimp only [put, List.set, ev, nth, List.nil_append, List.cons_append, md, Nat.reducePow, Nat.reduceAdd, Nat.reduceMul]
            refine WL_det rfl (det_move) ?_
            dsimp only [put, List.set, ev, nth, List.nil_append, List.cons_append, md, Nat.reducePow, Nat.reduceAdd, Nat.reduceMul]
            refine WL_nil ?_
            refine ⟨j + 1, ?_, ?_, ?_, ?_⟩
            · rfl
            · first | rw [pf_at, pf_le f g i j hc2, pf_succ] | rw [pf_at, pf_gt f g i j hc2, pf_succ]
              try rfl
            · omega
            · omega
          · have hc2 := of_decide_eq_false hc2
            have hm0 := hf j (by omega)
            have hm2 : 320 * f j * g (i + 17 - j) ≤ 192000 * 255 := Nat.mul_le_mul (by omega) (hg _)
            refine WC_draw [[], [0], [0, 1], [], [3], [], [5], [], [5, 6, 7], [5, 6, 7, 8], [5, 6, 7, 8, 9], [3, 4, 5, 6, 7, 8, 9, 10], [0, 1, 2, 3, 4, 5, 6, 7, 8, 9, 10, 11], [0, 1, 2, 3, 4, 5, 6, 7, 8, 9, 10, 11, 12], [0, 1, 2, 3, 4, 5, 6, 7, 8, 9, 10, 11, 12, 13]] [14] 50 [] (List.nil_sublist _) mixed rfl (by decide) ?_
            refine RW.pure rfl rfl (fun _ => rfl) (fun V hV => det_move) (fun _ _ _ => rfl) ?_
            dsimp only [put, List.set, ev, nth, List.nil_append, List.cons_append, md, Nat.reducePow, Nat.reduceAdd, Nat.reduceMul]
            refine RW.pure rfl rfl (fun _ => rfl) (fun V hV => det_idxA Try.underlying112 Try.sizeOf24 rfl rfl (rfl) (by omega)) (fun _ _ _ => rfl) ?_
            dsimp only [put, List.set, ev, nth, List.nil_append, List.cons_append, md, Nat.reducePow, Nat.reduceAdd, Nat.reduceMul]
            refine RW.det [] rfl rfl rfl rfl (fun _ => rfl) (fun V hV => Det.rel (det_loadA 3 Try.isAgg24 rfl rfl (by omega))) (fun _ _ _ => rfl) ?_
            dsimp only [put, List.set, ev, nth, List.nil_append, List.cons_append, md, Nat.reducePow, Nat.reduceAdd, Nat.reduceMul]
            refine RW.pure rfl rfl (fun _ => rfl) (fun V hV => det_move) (fun _ _ _ => rfl) ?_
            dsimp only [put, List.set, ev, nth, List.nil_append, List.cons_append, md, Nat.reducePow, Nat.reduceAdd, Nat.reduceMul]
            refine RW.pure rfl rfl (fun _ => rfl) (fun V hV => det_mul' (p := 320) rfl rfl rfl (by simp only [md]; omega)) (fun _ _ _ => rfl) ?_
            dsimp only [put, List.set, ev, nth, List.nil_append, List.cons_append, md, Nat.reducePow, Nat.reduceAdd, Nat.reduceMul]
            refine RW.pure rfl rfl (fun _ => rfl) (fun V hV => det_move) (fun _ _ _ => rfl) ?_
            dsimp only [put, List.set, ev, nth, List.nil_append, List.cons_append, md, Nat.reducePow, Nat.reduceAdd, Nat.reduceMul]
            refine RW.pure rfl rfl (fun _ => rfl) (fun V hV => det_addi (q := 17) rfl rfl (by omega)) (fun _ _ _ => rfl) ?_
            dsimp only [put, List.set, ev, nth, List.nil_append, List.cons_append, md, Nat.reducePow, Nat.reduceAdd, Nat.reduceMul]
            refine RW.pure rfl rfl (fun _ => rfl) (fun V hV => det_move) (fun _ _ _ => rfl) ?_
            dsimp only [put, List.set, ev, nth, List.nil_append, List.cons_append, md, Nat.reducePow, Nat.reduceAdd, Nat.reduceMul]
            refine RW.pure rfl rfl (fun _ => rfl) (fun V hV => det_subi rfl rfl (by omega) (by omega)) (fun _ _ _ => rfl) ?_
            dsimp only [put, List.set, ev, nth, List.nil_append, List.cons_append, md, Nat.reducePow, Nat.reduceAdd, Nat.reduceMul]
            refine RW.pure rfl rfl (fun _ => rfl) (fun V hV => det_idxA Try.underlying112 Try.sizeOf24 rfl rfl (rfl) (by omega)) (fun _ _ _ => rfl) ?_
            dsimp only [put, List.set, ev, nth, List.nil_append, List.cons_append, md, Nat.reducePow, Nat.reduceAdd, Nat.reduceMul]
            refine RW.det [] rfl rfl rfl rfl (fun _ => rfl) (fun V hV => Det.rel (det_loadA 1 Try.isAgg24 rfl rfl (by omega))) (fun _ _ _ => rfl) ?_
            dsimp only [put, List.set, ev, nth, List.nil_append, List.cons_append, md, Nat.reducePow, Nat.reduceAdd, Nat.reduceMul]
            refine RW.pure rfl rfl (fun _ => rfl) (fun V hV => det_mul' rfl rfl rfl (by simp only [md]; omega)) (fun _ _ _ => rfl) ?_
            dsimp only [put, List.set, ev, nth, List.nil_append, List.cons_append, md, Nat.reducePow, Nat.reduceAdd, Nat.reduceMul]
            refine RW.pure rfl rfl (fun _ => rfl) (fun V hV => det_add' rfl rfl rfl (by simp only [md]; omega)) (fun _ _ _ => rfl) ?_
            dsimp only [put, List.set, ev, nth, List.nil_append, List.cons_append, md, Nat.reducePow, Nat.reduceAdd, Nat.reduceMul]
            refine RW.pure rfl rfl (fun _ => rfl) (fun V hV => det_idxA Try.underlying112 Try.sizeOf24 rfl rfl (rfl) (by omega)) (fun _ _ _ => rfl) ?_
            dsimp only [put, List.set, ev, nth, List.nil_append, List.cons_append, md, Nat.reducePow, Nat.reduceAdd, Nat.reduceMul]
            refine RW.tail' (B := fun V => _ ++ flat [] V) rfl rfl rfl rfl (fun _ => rfl) (fun V hV => chg_storeA 3 Try.sizeOf24 rfl rfl (by omega) rfl) (fun _ _ _ _ _ h => h) (fun _ _ _ _ _ => List.nil_sublist _) ?_
            dsimp only [put, List.set, ev, nth, List.nil_append, List.cons_append, md, Nat.reducePow, Nat.reduceAdd, Nat.reduceMul]
            refine RW.done (fun V => (V 14).2) rfl rfl (fun _ => rfl) (fun V hV => ?_)
            have ht14 : (V 14).2 = _ := hV 14 _ rfl
            simp only [ht14, flat_nil]
            try dsimp only [put, blk, flat_nil, List.append_nil, List.append, List.eraseIdx, List.set, ev, nth, List.nil_append, List.cons_append, md, Nat.reducePow, Nat.reduceAdd, Nat.reduceMul]
            clear hV ht14
            refine WC_region ?_
            refine WL_det rfl (det_addi (q := 1) rfl rfl (by omega)) ?_
            dsimp only [put, List.set, ev, nth, List.nil_append, List.cons_append, md, Nat.reducePow, Nat.reduceAdd, Nat.reduceMul]
            refine WL_det rfl (det_move) ?_
            dsimp only [put, List.set, ev, nth, List.nil_append, List.cons_append, md, Nat.reducePow, Nat.reduceAdd, Nat.reduceMul]
            refine WL_nil ?_
            refine ⟨j + 1, ?_, ?_, ?_, ?_⟩
            · rfl
            · first | rw [pf_at, pf_le f g i j hc2, pf_succ] | rw [pf_at, pf_gt f g i j hc2, pf_succ]
              try rfl
            · omega
            · omega
        · have hc1 := of_decide_eq_false hc1
          obtain rfl : j = 17 := by omega
          refine WC_exit ?_
          refine inB_same ?_
          refine WC_region ?_
          refine WL_det rfl (det_addi (q := 1) rfl rfl (by omega)) ?_
          dsimp only [put, List.set, ev, nth, List.nil_append, List.cons_append, md, Nat.reducePow, Nat.reduceAdd, Nat.reduceMul]
          refine WL_det rfl (det_move) ?_
          dsimp only [put, List.set, ev, nth, List.nil_append, List.cons_append, md, Nat.reducePow, Nat.reduceAdd, Nat.reduceMul]
          refine WL_nil ?_
          refine ⟨i + 1, ?_, ?_, ?_, ?_⟩
          · rfl
          · rw [← pf_next]
            try rfl
          · omega
          · omega
    · have hc0 := of_decide_eq_false hc0
      obtain rfl : i = 17 := by omega
      rw [arr_congr (f := pf f g 17 0) (g := fun p => prd f g p 17) (pf_all f g)]
      refine WC_exit ?_
      refine inB_same ?_
      refine WC_seq ?_
      refine WC_region ?_
      refine WL_det rfl (det_loadWA 3 Try.underlying112 rfl i112 rfl rfl) ?_
      dsimp only [put, List.set, ev, nth, List.nil_append, List.cons_append, md, Nat.reducePow, Nat.reduceAdd, Nat.reduceMul]
      refine WL_rel rfl (Rel_call rfl Try.call90 (fun w hw => carry_spec (fun p => prd f g p 17) (fun p hp => by have := prd_le f g p 17 hf hg (by decide); omega) w)) ?_
      rintro _ _ ⟨rfl, rfl⟩
      dsimp only [put, List.append_nil, List.set, ev, nth, List.nil_append, List.cons_append, md, Nat.reducePow, Nat.reduceAdd, Nat.reduceMul]
      refine WL_chg rfl (chg_storeWA 2 Try.sizeOf112 rfl rfl rfl) ?_
      rintro _ _ rfl
      dsimp only [put, List.set, ev, nth, List.nil_append, List.cons_append, md, Nat.reducePow, Nat.reduceAdd, Nat.reduceMul]
      refine WL_nil ?_
      refine WC_ret ?_
      refine fin_cell 2 Try.results76 rfl rfl Try.underlying112 rfl i112 (arr_size _ _ _) ([]) (List.nil_sublist _) ?_
      exact ⟨rfl, rfl⟩

theorem redbyt (N : Nat) (hN : N < 256 ^ 17) (w : World) : Calls Try.prog 77 [.agg (arr .u32 17 (byt N))].toArray w (PostV w (.agg (arr .u32 17 (byt (N % Pp))))) := by
  have h := reduced_spec (byt N) (fun i _ => by have := byt_lt N i; omega) w
  rwa [lev_byt, Nat.mod_eq_of_lt hN] at h
theorem redprd (A N : Nat) (hA : A < Pp) (hN : N < Pp) (w : World) : Calls Try.prog 77 [.agg (arr .u32 17 (pt (fold (lev (fun p => prd (byt A) (byt N) p 17) 17))))].toArray w (PostV w (.agg (arr .u32 17 (byt (A * N % Pp))))) := by
  have hb := fold_lt (fun p => prd (byt A) (byt N) p 17) fun p _ => by have := prd_le (byt A) (byt N) p 17 (fun i _ => by have := byt_lt A i; omega) (fun i => by have := byt_lt N i; omega) (by decide); omega
  have h := reduced_spec (pt (fold (lev (fun p => prd (byt A) (byt N) p 17) 17))) (fun i _ => pt_le (M := 1000000000) (by have := top_le hb; omega) (by decide)) w
  rwa [lev_pt, prd_fold, lev_byt, lev_byt, Nat.mod_eq_of_lt (P_lt hA), Nat.mod_eq_of_lt (P_lt hN)] at h

theorem redsum (A N : Nat) (hA : A < Pp) (hN : N < Pp) (w : World) : Calls Try.prog 77 [.agg (arr .u32 17 fun i => byt A i + byt N i)].toArray w (PostV w (.agg (arr .u32 17 (byt ((A + N) % Pp))))) := by
  have h := reduced_spec (fun i => byt A i + byt N i) (fun i _ => by have h1 := byt_lt A i; have h2 := byt_lt N i; show byt A i + byt N i ≤ _; omega) w
  rwa [lev_add, lev_byt, lev_byt, Nat.mod_eq_of_lt (P_lt hA), Nat.mod_eq_of_lt (P_lt hN)] at h

set_option maxRecDepth 100000 in
set_option maxHeartbeats 400000 in
theorem nbytes_spec (N : Nat) (hN : N < 256 ^ 17) (w : World) :
    Calls Try.prog 49 [.agg (arr .u8 17 (byt N))].toArray w (PostV w (.agg (arr .u8 17 (byt (N % Pp))))) := by
  refine calls_of_WC Try.func49 rfl ?_
  simp only [Try.ntmps49, List.length_cons, List.length_nil, Nat.reduceAdd, Nat.reduceSub, List.replicate, List.cons_append, List.nil_append]
  refine WC_seq ?_
  refine WC_region ?_
  refine WL_rel rfl (rel_box rfl rfl) ?_
  rintro _ _ ⟨b0, rfl, rfl⟩
  dsimp only [put, List.set, ev, nth, List.nil_append, List.cons_append, md, Nat.reducePow, Nat.reduceAdd, Nat.reduceMul]
  refine WL_rel rfl (rel_alloc z75 rfl) ?_
  rintro _ _ ⟨b1, rfl, rfl⟩
  dsimp only [put, List.set, ev, nth, List.nil_append, List.cons_append, md, Nat.reducePow, Nat.reduceAdd, Nat.reduceMul]
  refine WL_nil ?_
  refine WC_seq ?_
  refine WC_region ?_
  refine WL_det rfl (det_loadWA 0 Try.underlying76 rfl i76 rfl rfl) ?_
  dsimp only [put, List.set, ev, nth, List.nil_append, List.cons_append, md, Nat.reducePow, Nat.reduceAdd, Nat.reduceMul]
  refine WL_rel rfl (Rel_call rfl Try.call75 (fun w hw => wide_spec N w)) ?_
  rintro _ _ ⟨rfl, rfl⟩
  dsimp only [put, List.append_nil, List.set, ev, nth, List.nil_append, List.cons_append, md, Nat.reducePow, Nat.reduceAdd, Nat.reduceMul]
  refine WL_rel rfl (Rel_call rfl Try.call77 (fun w hw => redbyt N hN w)) ?_
  rintro _ _ ⟨rfl, rfl⟩
  dsimp only [put, List.append_nil, List.set, ev, nth, List.nil_append, List.cons_append, md, Nat.reducePow, Nat.reduceAdd, Nat.reduceMul]
  refine WL_rel rfl (Rel_call rfl Try.call82 (fun w hw => plain_spec _ w)) ?_
  rintro _ _ ⟨rfl, rfl⟩
  dsimp only [put, List.append_nil, List.set, ev, nth, List.nil_append, List.cons_append, md, Nat.reducePow, Nat.reduceAdd, Nat.reduceMul]
  refine WL_chg rfl (chg_storeWA 1 Try.sizeOf75 rfl rfl rfl) ?_
  rintro _ _ rfl
  dsimp only [put, List.set, ev, nth, List.nil_append, List.cons_append, md, Nat.reducePow, Nat.reduceAdd, Nat.reduceMul]
  refine WL_nil ?_
  refine WC_ret ?_
  refine fin_cell 1 Try.results49 rfl rfl Try.underlying75 rfl i75 (arr_size _ _ _) ([]) (List.nil_sublist _) ?_
  exact ⟨rfl, rfl⟩

set_option maxRecDepth 100000 in
set_option maxHeartbeats 400000 in
theorem nmul_spec (A N : Nat) (hA : A < 256 ^ 17) (hN : N < 256 ^ 17) (w : World) :
    Calls Try.prog 53 [.agg (arr .u8 17 (byt A)), .agg (arr .u8 17 (byt N))].toArray w (PostV w (.agg (arr .u8 17 (byt (A % Pp * (N % Pp) % Pp))))) := by
  refine calls_of_WC Try.func53 rfl ?_
  simp only [Try.ntmps53, List.length_cons, List.length_nil, Nat.reduceAdd, Nat.reduceSub, List.replicate, List.cons_append, List.nil_append]
  refine WC_seq ?_
  refine WC_region ?_
  refine WL_rel rfl (rel_box rfl rfl) ?_
  rintro _ _ ⟨b0, rfl, rfl⟩
  dsimp only [put, List.set, ev, nth, List.nil_append, List.cons_append, md, Nat.reducePow, Nat.reduceAdd, Nat.reduceMul]
  refine WL_rel rfl (rel_box rfl rfl) ?_
  rintro _ _ ⟨b1, rfl, rfl⟩
  dsimp only [put, List.set, ev, nth, List.nil_append, List.cons_append, md, Nat.reducePow, Nat.reduceAdd, Nat.reduceMul]
  refine WL_rel rfl (rel_alloc z76 rfl) ?_
  rintro _ _ ⟨b2, rfl, rfl⟩
  dsimp only [put, List.set, ev, nth, List.nil_append, List.cons_append, md, Nat.reducePow, Nat.reduceAdd, Nat.reduceMul]
  refine WL_nil ?_
  refine WC_seq ?_
  refine WC_draw [[], [0], [0, 1], [], [0, 1, 2, 3], [0, 1, 2, 3, 4], [0, 1, 2, 3, 4, 5], [0, 1, 2, 3, 4, 5, 6], [0, 1, 2, 3, 4, 5, 6, 7], [0, 1, 2, 3, 4, 5, 6, 7, 8]] [9] 14 [] (List.nil_sublist _) mixed rfl (by decide) ?_
  refine RW.det [] rfl rfl rfl rfl (fun _ => rfl) (fun V hV => Det.rel (det_loadWA 0 Try.underlying76 rfl i76 rfl rfl)) (fun _ _ _ => rfl) ?_
  dsimp only [put, List.set, ev, nth, List.nil_append, List.cons_append, md, Nat.reducePow, Nat.reduceAdd, Nat.reduceMul]
  refine RW.det [] rfl rfl rfl rfl (fun _ => rfl) (fun V hV => Rel_call rfl Try.call75 (fun w hw => wide_spec A w)) (fun _ _ _ => rfl) ?_
  dsimp only [put, List.set, ev, nth, List.nil_append, List.cons_append, md, Nat.reducePow, Nat.reduceAdd, Nat.reduceMul]
  refine RW.det [] rfl rfl rfl rfl (fun _ => rfl) (fun V hV => Rel_call rfl Try.call77 (fun w hw => redbyt A hA w)) (fun _ _ _ => rfl) ?_
  dsimp only [put, List.set, ev, nth, List.nil_append, List.cons_append, md, Nat.reducePow, Nat.reduceAdd, Nat.reduceMul]
  refine RW.det [] rfl rfl rfl rfl (fun _ => rfl) (fun V hV => Det.rel (det_loadWA 1 Try.underlying76 rfl i76 rfl rfl)) (fun _ _ _ => rfl) ?_
  dsimp only [put, List.set, ev, nth, List.nil_append, List.cons_append, md, Nat.reducePow, Nat.reduceAdd, Nat.reduceMul]
  refine RW.det [] rfl rfl rfl rfl (fun _ => rfl) (fun V hV => Rel_call rfl Try.call75 (fun w hw => wide_spec N w)) (fun _ _ _ => rfl) ?_
  dsimp only [put, List.set, ev, nth, List.nil_append, List.cons_append, md, Nat.reducePow, Nat.reduceAdd, Nat.reduceMul]
  refine RW.det [] rfl rfl rfl rfl (fun _ => rfl) (fun V hV => Rel_call rfl Try.call77 (fun w hw => redbyt N hN w)) (fun _ _ _ => rfl) ?_
  dsimp only [put, List.set, ev, nth, List.nil_append, List.cons_append, md, Nat.reducePow, Nat.reduceAdd, Nat.reduceMul]
  refine RW.det [] rfl rfl rfl rfl (fun _ => rfl) (fun V hV => Rel_call rfl Try.call76 (fun w hw => product_spec (byt (A % Pp)) (byt (N % Pp)) (fun i _ => by have := byt_lt (A % Pp) i; omega) (fun i => by have := byt_lt (N % Pp) i; omega) w)) (fun _ _ _ => rfl) ?_
  dsimp only [put, List.set, ev, nth, List.nil_append, List.cons_append, md, Nat.reducePow, Nat.reduceAdd, Nat.reduceMul]
  refine RW.det [] rfl rfl rfl rfl (fun _ => rfl) (fun V hV => Rel_call rfl Try.call77 (fun w hw => redprd (A % Pp) (N % Pp) (Nat.mod_lt _ Pp_pos) (Nat.mod_lt _ Pp_pos) w)) (fun _ _ _ => rfl) ?_
  dsimp only [put, List.set, ev, nth, List.nil_append, List.cons_append, md, Nat.reducePow, Nat.reduceAdd, Nat.reduceMul]
  refine RW.det [] rfl rfl rfl rfl (fun _ => rfl) (fun V hV => Rel_call rfl Try.call82 (fun w hw => plain_spec _ w)) (fun _ _ _ => rfl) ?_
  dsimp only [put, List.set, ev, nth, List.nil_append, List.cons_append, md, Nat.reducePow, Nat.reduceAdd, Nat.reduceMul]
  refine RW.tail' (B := fun V => _ ++ flat [] V) rfl rfl rfl rfl (fun _ => rfl) (fun V hV => chg_storeWA 2 Try.sizeOf76 rfl rfl rfl) (fun _ _ _ _ _ h => h) (fun _ _ _ _ _ => List.nil_sublist _) ?_
  dsimp only [put, List.set, ev, nth, List.nil_append, List.cons_append, md, Nat.reducePow, Nat.reduceAdd, Nat.reduceMul]
  refine RW.done (fun V => (V 9).2) rfl rfl (fun _ => rfl) (fun V hV => ?_)
  have ht9 : (V 9).2 = _ := hV 9 _ rfl
  simp only [ht9, flat_nil]
  try dsimp only [put, blk, flat_nil, List.append_nil, List.append, List.eraseIdx, List.set, ev, nth, List.nil_append, List.cons_append, md, Nat.reducePow, Nat.reduceAdd, Nat.reduceMul]
  clear hV ht9
  refine WC_ret ?_
  refine fin_cell 2 Try.results53 rfl rfl Try.underlying76 rfl i76 (arr_size _ _ _) ([]) (List.nil_sublist _) ?_
  exact ⟨rfl, rfl⟩

set_option maxRecDepth 100000 in
set_option maxHeartbeats 400000 in
theorem nadd_spec (A N : Nat) (hA : A < 256 ^ 17) (hN : N < 256 ^ 17) (w : World) :
    Calls Try.prog 51 [.agg (arr .u8 17 (byt A)), .agg (arr .u8 17 (byt N))].toArray w (PostV w (.agg (arr .u8 17 (byt ((A % Pp + N % Pp) % Pp))))) := by
  refine calls_of_WC Try.func51 rfl ?_
  simp only [Try.ntmps51, List.length_cons, List.length_nil, Nat.reduceAdd, Nat.reduceSub, List.replicate, List.cons_append, List.nil_append]
  refine WC_seq ?_
  refine WC_region ?_
  refine WL_rel rfl (rel_box rfl rfl) ?_
  rintro _ _ ⟨b0, rfl, rfl⟩
  dsimp only [put, List.set, ev, nth, List.nil_append, List.cons_append, md, Nat.reducePow, Nat.reduceAdd, Nat.reduceMul]
  refine WL_rel rfl (rel_box rfl rfl) ?_
  rintro _ _ ⟨b1, rfl, rfl⟩
  dsimp only [put, List.set, ev, nth, List.nil_append, List.cons_append, md, Nat.reducePow, Nat.reduceAdd, Nat.reduceMul]
  refine WL_rel rfl (rel_alloc z76 rfl) ?_
  rintro _ _ ⟨b2, rfl, rfl⟩
  dsimp only [put, List.set, ev, nth, List.nil_append, List.cons_append, md, Nat.reducePow, Nat.reduceAdd, Nat.reduceMul]
  refine WL_nil ?_
  refine WC_seq ?_
  refine WC_draw [[], [0], [0, 1], [], [0, 1, 2, 3], [0, 1, 2, 3, 4], [], [], [0, 1, 2, 3, 4, 5, 6, 7], [0, 1, 2, 3, 4, 5, 6, 7, 8]] [8, 9] 29 [] (List.nil_sublist _) mixed rfl (by decide) ?_
  refine RW.det [] rfl rfl rfl rfl (fun _ => rfl) (fun V hV => Det.rel (det_loadWA 0 Try.underlying76 rfl i76 rfl rfl)) (fun _ _ _ => rfl) ?_
  dsimp only [put, List.set, ev, nth, List.nil_append, List.cons_append, md, Nat.reducePow, Nat.reduceAdd, Nat.reduceMul]
  refine RW.det [] rfl rfl rfl rfl (fun _ => rfl) (fun V hV => Rel_call rfl Try.call75 (fun w hw => wide_spec A w)) (fun _ _ _ => rfl) ?_
  dsimp only [put, List.set, ev, nth, List.nil_append, List.cons_append, md, Nat.reducePow, Nat.reduceAdd, Nat.reduceMul]
  refine RW.det [] rfl rfl rfl rfl (fun _ => rfl) (fun V hV => Rel_call rfl Try.call77 (fun w hw => redbyt A hA w)) (fun _ _ _ => rfl) ?_
  dsimp only [put, List.set, ev, nth, List.nil_append, List.cons_append, md, Nat.reducePow, Nat.reduceAdd, Nat.reduceMul]
  refine RW.det [] rfl rfl rfl rfl (fun _ => rfl) (fun V hV => Det.rel (det_loadWA 1 Try.underlying76 rfl i76 rfl rfl)) (fun _ _ _ => rfl) ?_
  dsimp only [put, List.set, ev, nth, List.nil_append, List.cons_append, md, Nat.reducePow, Nat.reduceAdd, Nat.reduceMul]
  refine RW.det [] rfl rfl rfl rfl (fun _ => rfl) (fun V hV => Rel_call rfl Try.call75 (fun w hw => wide_spec N w)) (fun _ _ _ => rfl) ?_
  dsimp only [put, List.set, ev, nth, List.nil_append, List.cons_append, md, Nat.reducePow, Nat.reduceAdd, Nat.reduceMul]
  refine RW.det [] rfl rfl rfl rfl (fun _ => rfl) (fun V hV => Rel_call rfl Try.call77 (fun w hw => redbyt N hN w)) (fun _ _ _ => rfl) ?_
  dsimp only [put, List.set, ev, nth, List.nil_append, List.cons_append, md, Nat.reducePow, Nat.reduceAdd, Nat.reduceMul]
  refine RW.rel' (R0 := fun _ => IsNew (arr .u32 17 fun _ => 0) 112) [] rfl rfl rfl rfl (fun _ => rfl) rfl (fun V hV => draw_alloc z112 rfl) (fun _ _ _ _ _ h => h) ?_
  dsimp only [put, List.set, ev, nth, List.nil_append, List.cons_append, md, Nat.reducePow, Nat.reduceAdd, Nat.reduceMul]
  refine RW.rel' (R0 := fun _ => IsNew (arr .u32 17 fun _ => 0) 112) [] rfl rfl rfl rfl (fun _ => rfl) rfl (fun V hV => draw_alloc z112 rfl) (fun _ _ _ _ _ h => h) ?_
  dsimp only [put, List.set, ev, nth, List.nil_append, List.cons_append, md, Nat.reducePow, Nat.reduceAdd, Nat.reduceMul]
  refine RW.tail' (B := fun V => _ ++ flat [6, 7] V) rfl rfl rfl rfl (fun _ => rfl) (fun V hV => chg_storeWA 3 Try.sizeOf112 (IsNew.ptr (hV 6 (by decide) _ rfl)) (by have e6 : (V 6).2 = _ := IsNew.mem (hV 6 (by decide) _ rfl); have e7 : (V 7).2 = _ := IsNew.mem (hV 7 (by decide) _ rfl); simp only [flat_cons, flat_nil, e6, e7]; rfl) rfl) (fun V V' hV _ _ h => by simpa only [flat_cons, flat_nil, hV 6 (by decide), hV 7 (by decide)] using h) (fun _ _ _ _ _ => List.nil_sublist _) ?_
  dsimp only [put, List.set, ev, nth, List.nil_append, List.cons_append, md, Nat.reducePow, Nat.reduceAdd, Nat.reduceMul]
  refine RW.tail' (B := fun V => (V 8).2) rfl rfl rfl rfl (fun _ => rfl) (fun V hV => by have hp : (V 8).2 = _ := hV 8 (by decide) _ rfl; rw [hp]; exact chg_storeWA 4 Try.sizeOf112 (IsNew.ptr (hV 7 (by decide) _ rfl)) (by have e6 : (V 6).2 = _ := IsNew.mem (hV 6 (by decide) _ rfl); have e7 : (V 7).2 = _ := IsNew.mem (hV 7 (by decide) _ rfl); simp only [flat_cons, flat_nil, e6, e7]; rfl) rfl) (fun V V' hV _ _ h => by simpa only [flat_cons, flat_nil, hV 6 (by decide), hV 7 (by decide), hV 8 (by decide)] using h) (fun _ _ _ _ _ => List.nil_sublist _) ?_
  dsimp only [put, List.set, ev, nth, List.nil_append, List.cons_append, md, Nat.reducePow, Nat.reduceAdd, Nat.reduceMul]
  refine RW.done (fun V => (V 9).2) rfl rfl (fun _ => rfl) (fun V hV => ?_)
  obtain ⟨b3, hp3, hq3⟩ : IsNew _ _ (V 6).1 (V 6).2 := hV 6 _ rfl
  obtain ⟨b4, hp4, hq4⟩ : IsNew _ _ (V 7).1 (V 7).2 := hV 7 _ rfl
  have ht9 : (V 9).2 = _ := hV 9 _ rfl
  simp only [hp3, hq3, hp4, hq4, ht9, flat_cons, flat_nil]
  try dsimp only [put, blk, flat_nil, List.append_nil, List.append, List.eraseIdx, List.set, ev, nth, List.nil_append, List.cons_append, md, Nat.reducePow, Nat.reduceAdd, Nat.reduceMul]
  clear hV hp3 hq3 hp4 hq4 ht9
  refine WC_seq ?_
  refine WC_seq ?_
  refine WC_region ?_
  refine WL_det rfl (det_move) ?_
  dsimp only [put, List.set, ev, nth, List.nil_append, List.cons_append, md, Nat.reducePow, Nat.reduceAdd, Nat.reduceMul]
  refine WL_nil ?_
  refine WC_block ?_
  refine WC_loopS (ι := Nat) [15, 16, 7, 17, 18, 19, 20, 21, 22, 23, 24, 25] (fun k => [(14, vn .i64 (k))]) (fun k => [(3, (some b3, .cells (arr .u32 17 (ad2 (byt (A % Pp)) (byt (N % Pp)) k)) 112 (0, 0)))]) (fun k => k ≤ 17) (fun k => 17 - k) 0 ?_ ?_ ?_ ?_
  · rfl
  · rw [ad2_zero]
    try rfl
  · exact (by omega)
  · intro k g hI
    dsimp only [setAll, setG, setM, List.set]
    have hb1 := byt_lt (A % Pp) k
    have hb2 := byt_lt (N % Pp) k
    have hb3 : ad2 (byt (A % Pp)) (byt (N % Pp)) k k = byt (A % Pp) k := ad2_at _ _ _
    refine WC_seq ?_
    refine WC_region ?_
    refine WL_det rfl (det_lss (q := 17) rfl rfl) ?_
    dsimp only [put, List.set, ev, nth, List.nil_append, List.cons_append, md, Nat.reducePow, Nat.reduceAdd, Nat.reduceMul]
    refine WL_nil ?_
    refine WC_seq ?_
    refine WC_cond rfl (fun hc0 => ?_) (fun hc0 => ?_)
    · have hc0 := of_decide_eq_true hc0
      refine WC_skip ?_
      refine WC_seq ?_
      refine WC_block ?_
      refine WC_seq ?_
      refine WC_region ?_
      refine WL_det rfl (det_move) ?_
      dsimp only [put, List.set, ev, nth, List.nil_append, List.cons_append, md, Nat.reducePow, Nat.reduceAdd, Nat.reduceMul]
      refine WL_det rfl (det_assign) ?_
      dsimp only [put, List.set, ev, nth, List.nil_append, List.cons_append, md, Nat.reducePow, Nat.reduceAdd, Nat.reduceMul]
      refine WL_nil ?_
      refine WC_draw [[], [0], [0, 1], [], [3], [3, 4], [0, 1, 2, 3, 4, 5], [0, 1, 2, 3, 4, 5, 6], [0, 1, 2, 3, 4, 5, 6, 7]] [8] 29 [] (List.nil_sublist _) mixed rfl (by decide) ?_
      refine RW.pure rfl rfl (fun _ => rfl) (fun V hV => det_move) (fun _ _ _ => rfl) ?_
      dsimp only [put, List.set, ev, nth, List.nil_append, List.cons_append, md, Nat.reducePow, Nat.reduceAdd, Nat.reduceMul]
      refine RW.pure rfl rfl (fun _ => rfl) (fun V hV => det_idxA Try.underlying112 Try.sizeOf24 rfl rfl (rfl) (by omega)) (fun _ _ _ => rfl) ?_
      dsimp only [put, List.set, ev, nth, List.nil_append, List.cons_append, md, Nat.reducePow, Nat.reduceAdd, Nat.reduceMul]
      refine RW.det [] rfl rfl rfl rfl (fun _ => rfl) (fun V hV => Det.rel (det_loadA 3 Try.isAgg24 rfl rfl (by omega))) (fun _ _ _ => rfl) ?_
      dsimp only [put, List.set, ev, nth, List.nil_append, List.cons_append, md, Nat.reducePow, Nat.reduceAdd, Nat.reduceMul]
      refine RW.pure rfl rfl (fun _ => rfl) (fun V hV => det_move) (fun _ _ _ => rfl) ?_
      dsimp only [put, List.set, ev, nth, List.nil_append, List.cons_append, md, Nat.reducePow, Nat.reduceAdd, Nat.reduceMul]
      refine RW.pure rfl rfl (fun _ => rfl) (fun V hV => det_idxA Try.underlying112 Try.sizeOf24 rfl rfl (rfl) (by omega)) (fun _ _ _ => rfl) ?_
      dsimp only [put, List.set, ev, nth, List.nil_append, List.cons_append, md, Nat.reducePow, Nat.reduceAdd, Nat.reduceMul]
      refine RW.det [] rfl rfl rfl rfl (fun _ => rfl) (fun V hV => Det.rel (det_loadA 4 Try.isAgg24 rfl rfl (by omega))) (fun _ _ _ => rfl) ?_
      dsimp only [put, List.set, ev, nth, List.nil_append, List.cons_append, md, Nat.reducePow, Nat.reduceAdd, Nat.reduceMul]
      refine RW.pure rfl rfl (fun _ => rfl) (fun V hV => det_add' rfl rfl rfl (by simp only [md]; omega)) (fun _ _ _ => rfl) ?_
      dsimp only [put, List.set, ev, nth, List.nil_append, List.cons_append, md, Nat.reducePow, Nat.reduceAdd, Nat.reduceMul]
      refine RW.pure rfl rfl (fun _ => rfl) (fun V hV => det_idxA Try.underlying112 Try.sizeOf24 rfl rfl (rfl) (by omega)) (fun _ _ _ => rfl) ?_
      dsimp only [put, List.set, ev, nth, List.nil_append, List.cons_append, md, Nat.reducePow, Nat.reduceAdd, Nat.reduceMul]
      refine RW.tail' (B := fun V => _ ++ flat [] V) rfl rfl rfl rfl (fun _ => rfl) (fun V hV => chg_storeA 3 Try.sizeOf24 rfl rfl (by omega) rfl) (fun _ _ _ _ _ h => h) (fun _ _ _ _ _ => List.nil_sublist _) ?_
      dsimp only [put, List.set, ev, nth, List.nil_append, List.cons_append, md, Nat.reducePow, Nat.reduceAdd, Nat.reduceMul]
      refine RW.done (fun V => (V 8).2) rfl rfl (fun _ => rfl) (fun V hV => ?_)
      have ht8 : (V 8).2 = _ := hV 8 _ rfl
      simp only [ht8, flat_nil]
      try dsimp only [put, blk, flat_nil, List.append_nil, List.append, List.eraseIdx, List.set, ev, nth, List.nil_append, List.cons_append, md, Nat.reducePow, Nat.reduceAdd, Nat.reduceMul]
      clear hV ht8
      refine WC_region ?_
      refine WL_det rfl (det_addi (q := 1) rfl rfl (by omega)) ?_
      dsimp only [put, List.set, ev, nth, List.nil_append, List.cons_append, md, Nat.reducePow, Nat.reduceAdd, Nat.reduceMul]
      refine WL_det rfl (det_move) ?_
      dsimp only [put, List.set, ev, nth, List.nil_append, List.cons_append, md, Nat.reducePow, Nat.reduceAdd, Nat.reduceMul]
      refine WL_nil ?_
      refine ⟨k + 1, ?_, ?_, ?_, ?_⟩
      · rfl
      · rw [ad2_at, ad2_succ]
        try rfl
      · omega
      · omega
    · have hc0 := of_decide_eq_false hc0
      obtain rfl : k = 17 := by omega
      rw [arr_congr (f := ad2 (byt (A % Pp)) (byt (N % Pp)) 17) (g := fun i => byt (A % Pp) i + byt (N % Pp) i) (ad2_all _ _ 17)]
      refine WC_exit ?_
      refine inB_same ?_
      refine WC_seq ?_
      refine WC_region ?_
      refine WL_det rfl (det_loadWA 3 Try.underlying112 rfl i112 rfl rfl) ?_
      dsimp only [put, List.set, ev, nth, List.nil_append, List.cons_append, md, Nat.reducePow, Nat.reduceAdd, Nat.reduceMul]
      refine WL_rel rfl (Rel_call rfl Try.call77 (fun w hw => redsum (A % Pp) (N % Pp) (Nat.mod_lt _ Pp_pos) (Nat.mod_lt _ Pp_pos) w)) ?_
      rintro _ _ ⟨rfl, rfl⟩
      dsimp only [put, List.append_nil, List.set, ev, nth, List.nil_append, List.cons_append, md, Nat.reducePow, Nat.reduceAdd, Nat.reduceMul]
      refine WL_rel rfl (Rel_call rfl Try.call82 (fun w hw => plain_spec _ w)) ?_
      rintro _ _ ⟨rfl, rfl⟩
      dsimp only [put, List.append_nil, List.set, ev, nth, List.nil_append, List.cons_append, md, Nat.reducePow, Nat.reduceAdd, Nat.reduceMul]
      refine WL_chg rfl (chg_storeWA 2 Try.sizeOf76 rfl rfl rfl) ?_
      rintro _ _ rfl
      dsimp only [put, List.set, ev, nth, List.nil_append, List.cons_append, md, Nat.reducePow, Nat.reduceAdd, Nat.reduceMul]
      refine WL_nil ?_
      refine WC_ret ?_
      refine fin_cell 2 Try.results51 rfl rfl Try.underlying76 rfl i76 (arr_size _ _ _) ([]) (List.nil_sublist _) ?_
      exact ⟨rfl, rfl⟩

end Go.Proofs.Ytpmldkhgdpchjaa
