/- What the claim of this folder needs of its texts, put together by a program of this claim. Conditions: none. -/
import Derived.Test.YtocmlaloafmfkaaBLO16
set_option linter.unusedSectionVars false
set_option linter.unusedSimpArgs false
set_option linter.unusedVariables false
set_option linter.unusedVariables false
set_option linter.unusedSectionVars false
set_option linter.unusedSimpArgs false
namespace Go.Proofs.Ytocmlaloafmfkaa
open Go.MW
section
variable {α : Type} [DecidableEq α]
end
end Go.Proofs.Ytocmlaloafmfkaa

set_option linter.unusedVariables false
set_option linter.unusedSectionVars false
set_option linter.unusedSimpArgs false
namespace Go.Proofs.Ytocmlaloafmfkaa
open Go.MW
end Go.Proofs.Ytocmlaloafmfkaa

set_option linter.unusedVariables false
set_option linter.unusedSectionVars false
set_option linter.unusedSimpArgs false
namespace Go.Proofs.Ytocmlaloafmfkaa
open Go.MW
set_option maxRecDepth 100000 in
set_option maxHeartbeats 4000000 in
theorem rorder_spec (es : List (Int × Int)) (ve : Value) (hes : es.length ≤ 200) (w : World) (he : RdP w es ve) :
    Calls Try.prog 35 [ve].toArray w (Post w (fun v m => ∃ v1 e1, v = .tuple #[v1, .bool (ordE es).2] ∧ RowO 3 (iv (ordE es).1) v1 e1 ∧ m = [e1])) := by
  have hnl := nodes_len es
  refine calls_of_WC Try.func35 rfl ?_
  simp only [Try.ntmps35, List.length_cons, List.length_nil, Nat.reduceAdd, Nat.reduceSub, List.replicate, List.cons_append, List.nil_append]
  refine WC_seq ?_
  refine WC_region ?_
  refine WL_det rfl (det_assign) ?_
  dsimp only [put, List.set, ev, nth, List.nil_append, List.cons_append, md, Nat.reducePow, Nat.reduceAdd, Nat.reduceMul]
  refine WL_det rfl (det_assign) ?_
  dsimp only [put, List.set, ev, nth, List.nil_append, List.cons_append, md, Nat.reducePow, Nat.reduceAdd, Nat.reduceMul]
  refine WL_nil ?_
  refine WC_seq ?_
  refine WC_region ?_
  refine WL_det rfl (det_move) ?_
  dsimp only [put, List.set, ev, nth, List.nil_append, List.cons_append, md, Nat.reducePow, Nat.reduceAdd, Nat.reduceMul]
  refine WL_rel rfl (Rel_call rfl Try.call33 (fun w hw => nodes_spec es ve (by omega) w (RdP.far hw he))) ?_
  rintro v4 _ ⟨e4, h4, rfl⟩
  dsimp only [put, List.append_nil, List.set, ev, nth, List.nil_append, List.cons_append, md, Nat.reducePow, Nat.reduceAdd, Nat.reduceMul]
  refine WL_det rfl (det_assign) ?_
  dsimp only [put, List.set, ev, nth, List.nil_append, List.cons_append, md, Nat.reducePow, Nat.reduceAdd, Nat.reduceMul]
  refine WL_nil ?_
  refine WC_seq ?_
  refine WC_region ?_
  refine WL_det rfl (det_assign) ?_
  dsimp only [put, List.set, ev, nth, List.nil_append, List.cons_append, md, Nat.reducePow, Nat.reduceAdd, Nat.reduceMul]
  refine WL_nil ?_
  refine WC_seq ?_
  refine WC_block ?_
  refine WC.addNone (.cells #[] 3 (0, 0)) ?_
  dsimp only [List.cons_append, List.nil_append]
  refine WC_loopS (ι := List Int × List Nat × Value × (Option Nat × Obj)) [12, 13, 14, 15, 16, 6, 7, 17, 18, 19, 20, 21, 22, 23, 24, 27, 28, 29, 30, 31, 32, 33, 8, 9, 34, 35, 36, 37, 40, 41, 42, 43, 44, 45, 46, 47, 48, 49, 50, 51, 52, 53, 54, 55, 56, 57, 58, 59, 38, 39, 60, 61, 25, 26, 62, 63, 2, 3, 64, 65, 66, 67, 68, 69, 70] (fun x => [(5, x.2.2.1)]) (fun x => [(1, x.2.2.2)]) (fun x => OrdInv (outE es) (nodesE es).length x.1 x.2.1 ∧ x.2.1.length ≤ (nodesE es).length ∧ RowO 3 (iv (x.2.1.map fun i => (nodesE es).getD i 0)) x.2.2.1 x.2.2.2 ∧ ordR (outE es) ((nodesE es).length - x.2.1.length) x.1 x.2.1 = ordP (outE es) (nodesE es).length) (fun x => (nodesE es).length - x.2.1.length) (degA (outE es) (nodesE es).length (nodesE es).length, [], .slice none 0 0, (none, .cells #[] 3 (0, 0))) ?_ ?_ ?_ ?_
  · rfl
  · rfl
  · exact ⟨OrdInv.zero _ _, Nat.zero_le _, RowO.nil _ _, rfl⟩
  · rintro ⟨D, o, v1, e1⟩ g' ⟨hI, hol, h1, hre⟩
    dsimp only [setAll, setG, setM, List.set]
    dsimp only at hI hol h1 hre
    refine WC_seq ?_
    refine WC_seq ?_
    refine WC_region ?_
    refine WL_det rfl (det_move) ?_
    dsimp only [put, List.set, ev, nth, List.nil_append, List.cons_append, md, Nat.reducePow, Nat.reduceAdd, Nat.reduceMul]
    refine WL_det rfl (det_lenR Try.underlying43 rfl (fun w hw => RowO.rd hw 1 rfl h1) (iv_len (o.map fun i => (nodesE es).getD i 0))) ?_
    dsimp only [put, List.set, ev, nth, List.nil_append, List.cons_append, md, Nat.reducePow, Nat.reduceAdd, Nat.reduceMul]
    refine WL_det rfl (det_move) ?_
    dsimp only [put, List.set, ev, nth, List.nil_append, List.cons_append, md, Nat.reducePow, Nat.reduceAdd, Nat.reduceMul]
    refine WL_det rfl (det_lenR Try.underlying43 rfl (fun w hw => RowO.rd hw 0 rfl h4) (iv_len (nodesE es))) ?_
    dsimp only [put, List.set, ev, nth, List.nil_append, List.cons_append, md, Nat.reducePow, Nat.reduceAdd, Nat.reduceMul]
    refine WL_det rfl (det_lss rfl rfl) ?_
    dsimp only [put, List.set, ev, nth, List.nil_append, List.cons_append, md, Nat.reducePow, Nat.reduceAdd, Nat.reduceMul]
    refine WL_nil ?_
    refine WC_cond rfl (fun hc0 => ?_) (fun hc0 => ?_)
    · have hc0 := of_decide_eq_true hc0
      rw [List.length_map] at hc0
      obtain ⟨f, hf⟩ : ∃ f, (nodesE es).length - o.length = f + 1 := ⟨(nodesE es).length - o.length - 1, by omega⟩
      rw [hf, ordR] at hre
      refine WC_skip ?_
      refine WC_block ?_
      refine WC_seq ?_
      refine WC_region ?_
      refine WL_det rfl (det_assign) ?_
      dsimp only [put, List.set, ev, nth, List.nil_append, List.cons_append, md, Nat.reducePow, Nat.reduceAdd, Nat.reduceMul]
      refine WL_nil ?_
      refine WC_seq ?_
      refine WC_seq ?_
      refine WC_region ?_
      refine WL_det rfl (det_assign) ?_
      dsimp only [put, List.set, ev, nth, List.nil_append, List.cons_append, md, Nat.reducePow, Nat.reduceAdd, Nat.reduceMul]
      refine WL_nil ?_
      refine WC_block ?_
      refine WC_loopS (ι := Nat × Int) [17, 18, 19, 20, 21, 22, 23, 24, 27, 28, 29, 30, 31, 32, 33, 8, 9, 34, 35, 36, 37, 40, 41, 42, 43, 44, 45, 46, 47, 48, 49, 50, 51, 52, 53, 54, 55, 56, 57, 58, 59, 38, 39, 60, 61, 25, 26] (fun x => [(7, vn .i64 (x.1)), (6, .int .i64 (x.2))]) (fun x => []) (fun x => x.1 ≤ (nodesE es).length ∧ ((x.2 = -1 ∧ ∀ j, j < x.1 → D.getD j 0 ≠ 0) ∨ (0 ∈ D ∧ x.2 = ((D.idxOf 0 : Nat) : Int)))) (fun x => (nodesE es).length - x.1) (0, -1) ?_ ?_ ?_ ?_
      · rfl
      · rfl
      · exact ⟨Nat.zero_le _, .inl ⟨rfl, fun j hj => absurd hj (Nat.not_lt_zero _)⟩⟩
      · rintro ⟨i, nx⟩ g'' ⟨hi, hor⟩
        dsimp only [setAll, setG, setM, List.set]
        dsimp only at hi hor
        refine WC_seq ?_
        refine WC_seq ?_
        by_cases hin : i < (nodesE es).length
        · refine WC_region ?_
          refine WL_det rfl (det_move) ?_
          dsimp only [put, List.set, ev, nth, List.nil_append, List.cons_append, md, Nat.reducePow, Nat.reduceAdd, Nat.reduceMul]
          refine WL_det rfl (det_move) ?_
          dsimp only [put, List.set, ev, nth, List.nil_append, List.cons_append, md, Nat.reducePow, Nat.reduceAdd, Nat.reduceMul]
          refine WL_det rfl (det_lenR Try.underlying43 rfl (fun w hw => RowO.rd hw 0 rfl h4) (iv_len (nodesE es))) ?_
          dsimp only [put, List.set, ev, nth, List.nil_append, List.cons_append, md, Nat.reducePow, Nat.reduceAdd, Nat.reduceMul]
          refine WL_det rfl (Det.bv true (det_lss rfl rfl) (decide_eq_true hin)) ?_
          dsimp only [put, List.set, ev, nth, List.nil_append, List.cons_append, md, Nat.reducePow, Nat.reduceAdd, Nat.reduceMul]
          refine WL_det rfl (det_move) ?_
          dsimp only [put, List.set, ev, nth, List.nil_append, List.cons_append, md, Nat.reducePow, Nat.reduceAdd, Nat.reduceMul]
          refine WL_detG rfl (det_move) ?_
          dsimp only [put, List.set, ev, nth, List.nil_append, List.cons_append, md, Nat.reducePow, Nat.reduceAdd, Nat.reduceMul]
          refine WL_detG rfl (det_lssz rfl rfl) ?_
          dsimp only [put, List.set, ev, nth, List.nil_append, List.cons_append, md, Nat.reducePow, Nat.reduceAdd, Nat.reduceMul]
          refine WL_det rfl (det_pick_true rfl) ?_
          dsimp only [put, List.set, ev, nth, List.nil_append, List.cons_append, md, Nat.reducePow, Nat.reduceAdd, Nat.reduceMul]
          refine WL_nil ?_
          refine WC_cond rfl (fun hc1 => ?_) (fun hc1 => ?_)
          · have hc1 := of_decide_eq_true hc1
            have hor1 := hor.resolve_right (fun h => by have := h.2; omega)
            obtain ⟨hnx1, hall⟩ := hor1
            refine WC_skip ?_
            refine WC_seq ?_
            refine WC_block ?_
            refine WC_seq ?_
            refine WC_region ?_
            refine WL_det rfl (det_move) ?_
            dsimp only [put, List.set, ev, nth, List.nil_append, List.cons_append, md, Nat.reducePow, Nat.reduceAdd, Nat.reduceMul]
            refine WL_det rfl (det_move) ?_
            dsimp only [put, List.set, ev, nth, List.nil_append, List.cons_append, md, Nat.reducePow, Nat.reduceAdd, Nat.reduceMul]
            refine WL_det rfl (det_move) ?_
            dsimp only [put, List.set, ev, nth, List.nil_append, List.cons_append, md, Nat.reducePow, Nat.reduceAdd, Nat.reduceMul]
            refine WL_det rfl (det_idxR Try.underlying43 Try.sizeOf3 rfl rfl (rfl) (by rw [iv_len]; omega) (fun w hw => RowO.rd hw 0 rfl h4)) ?_
            dsimp only [put, List.set, ev, nth, List.nil_append, List.cons_append, md, Nat.reducePow, Nat.reduceAdd, Nat.reduceMul]
            refine WL_det rfl (det_loadR Try.isAgg3 rfl (fun w hw => RowO.rd hw 0 rfl h4) (iv_at (nodesE es) (by omega))) ?_
            dsimp only [put, List.set, ev, nth, List.nil_append, List.cons_append, md, Nat.reducePow, Nat.reduceAdd, Nat.reduceMul]
            refine WL_rel rfl (Rel_call rfl Try.call26 (fun w hw => in_spec (o.map fun i => (nodesE es).getD i 0) ((nodesE es).getD i 0) v1 (by rw [List.length_map]; omega) w (RowO.rd hw 1 rfl h1))) ?_
            rintro _ _ ⟨rfl, rfl⟩
            dsimp only [put, List.append_nil, List.set, ev, nth, List.nil_append, List.cons_append, md, Nat.reducePow, Nat.reduceAdd, Nat.reduceMul]
            refine WL_det rfl (det_not rfl) ?_
            dsimp only [put, List.set, ev, nth, List.nil_append, List.cons_append, md, Nat.reducePow, Nat.reduceAdd, Nat.reduceMul]
            refine WL_det rfl (det_assign) ?_
            dsimp only [put, List.set, ev, nth, List.nil_append, List.cons_append, md, Nat.reducePow, Nat.reduceAdd, Nat.reduceMul]
            refine WL_nil ?_
            refine WC_seq ?_
            refine WC_seq ?_
            refine WC_region ?_
            refine WL_det rfl (det_assign) ?_
            dsimp only [put, List.set, ev, nth, List.nil_append, List.cons_append, md, Nat.reducePow, Nat.reduceAdd, Nat.reduceMul]
            refine WL_nil ?_
            refine WC_block ?_
            refine WC_loopS (ι := Nat) [34, 35, 36, 37, 40, 41, 42, 43, 44, 45, 46, 47, 48, 49, 50, 51, 52, 53, 54, 55, 56, 57, 58, 59, 38, 39] (fun k => [(9, vn .i64 (k)), (8, .bool (frB es (o.map fun i => (nodesE es).getD i 0) ((nodesE es).getD i 0) k))]) (fun k => []) (fun k => k ≤ es.length) (fun k => es.length - k) 0 ?_ ?_ ?_ ?_
            · rw [frB_zero]
              rfl
            · rfl
            · exact Nat.zero_le _
            · rintro k g3 hk
              dsimp only [setAll, setG, setM, List.set]
              refine WC_seq ?_
              refine WC_seq ?_
              refine WC_region ?_
              refine WL_det rfl (det_move) ?_
              dsimp only [put, List.set, ev, nth, List.nil_append, List.cons_append, md, Nat.reducePow, Nat.reduceAdd, Nat.reduceMul]
              refine WL_det rfl (det_move) ?_
              dsimp only [put, List.set, ev, nth, List.nil_append, List.cons_append, md, Nat.reducePow, Nat.reduceAdd, Nat.reduceMul]
              refine WL_det rfl (det_lenP Try.underlying52 rfl (fun w hw => RdP.far hw he)) ?_
              dsimp only [put, List.set, ev, nth, List.nil_append, List.cons_append, md, Nat.reducePow, Nat.reduceAdd, Nat.reduceMul]
              refine WL_det rfl (det_lss rfl rfl) ?_
              dsimp only [put, List.set, ev, nth, List.nil_append, List.cons_append, md, Nat.reducePow, Nat.reduceAdd, Nat.reduceMul]
              refine WL_nil ?_
              refine WC_cond rfl (fun hc2 => ?_) (fun hc2 => ?_)
              · have hc2 := of_decide_eq_true hc2
                refine WC_skip ?_
                refine WC_seq ?_
                refine WC_block ?_
                refine WC_seq ?_
                by_cases hA : (es.getD k (0, 0)).2 = ((nodesE es).getD i 0)
                · refine WC_draw [[], [], [0, 1], [0, 1, 2], [0, 1, 2, 3], [], [], [5, 6], [5, 6, 7], [0, 1, 2, 3, 4, 5, 6, 7, 8], [0, 1, 2, 3, 4, 5, 6, 7, 8, 9], [0, 1, 2, 3, 4, 5, 6, 7, 8, 9, 10], [0, 1, 2, 3, 4, 5, 6, 7, 8, 9, 10], [0, 1, 2, 3, 4, 5, 6, 7, 8, 9, 10], [0, 1, 2, 3, 4, 5, 6, 7, 8, 9, 10, 12, 13], [0, 1, 2, 3, 4, 5, 6, 7, 8, 9, 10, 12, 13, 14], [0, 1, 2, 3, 4, 5, 6, 7, 8, 9, 10, 12, 13, 14, 15], [0, 1, 2, 3, 4, 5, 6, 7, 8, 9, 10, 11, 12, 13, 14, 15, 16], [0, 1, 2, 3, 4, 5, 6, 7, 8, 9, 10, 11, 12, 13, 14, 15, 16, 17], [0, 1, 2, 3, 4, 5, 6, 7, 8, 9, 10, 11, 12, 13, 14, 15, 16, 17, 18]] [] 72 [] (List.nil_sublist _) mixed rfl (by decide) ?_
                  refine RW.pure rfl rfl (fun _ => rfl) (fun V hV => det_move) (fun _ _ _ => rfl) ?_
                  dsimp only [put, List.set, ev, nth, List.nil_append, List.cons_append, md, Nat.reducePow, Nat.reduceAdd, Nat.reduceMul]
                  refine RW.pure rfl rfl (fun _ => rfl) (fun V hV => det_move) (fun _ _ _ => rfl) ?_
                  dsimp only [put, List.set, ev, nth, List.nil_append, List.cons_append, md, Nat.reducePow, Nat.reduceAdd, Nat.reduceMul]
                  refine RW.det [] rfl rfl rfl rfl (fun _ => rfl) (fun V hV => Det.rel (det_idxP Try.underlying52 Try.sizeOf59 rfl rfl (rfl) (by omega) (fun w hw => RdP.far hw he))) (fun _ _ _ => rfl) ?_
                  dsimp only [put, List.set, ev, nth, List.nil_append, List.cons_append, md, Nat.reducePow, Nat.reduceAdd, Nat.reduceMul]
                  refine RW.pure rfl rfl (fun _ => rfl) (fun V hV => det_idxAo (j := 1) Try.underlying59 Try.sizeOf3 rfl rfl (rfl) (by omega)) (fun _ _ _ => rfl) ?_
                  dsimp only [put, List.set, ev, nth, List.nil_append, List.cons_append, md, Nat.reducePow, Nat.reduceAdd, Nat.reduceMul]
                  refine RW.det [] rfl rfl rfl rfl (fun _ => rfl) (fun V hV => Det.rel (det_loadP1 Try.isAgg3 rfl (fun w hw => RdP.far hw he) (by omega))) (fun _ _ _ => rfl) ?_
                  dsimp only [put, List.set, ev, nth, List.nil_append, List.cons_append, md, Nat.reducePow, Nat.reduceAdd, Nat.reduceMul]
                  refine RW.pure rfl rfl (fun _ => rfl) (fun V hV => det_move) (fun _ _ _ => rfl) ?_
                  dsimp only [put, List.set, ev, nth, List.nil_append, List.cons_append, md, Nat.reducePow, Nat.reduceAdd, Nat.reduceMul]
                  refine RW.pure rfl rfl (fun _ => rfl) (fun V hV => det_move) (fun _ _ _ => rfl) ?_
                  dsimp only [put, List.set, ev, nth, List.nil_append, List.cons_append, md, Nat.reducePow, Nat.reduceAdd, Nat.reduceMul]
                  refine RW.det [] rfl rfl rfl rfl (fun _ => rfl) (fun V hV => Det.rel (det_idxR Try.underlying43 Try.sizeOf3 rfl rfl (rfl) (by rw [iv_len]; omega) (fun w hw => RowO.rd hw 0 rfl h4))) (fun _ _ _ => rfl) ?_
                  dsimp only [put, List.set, ev, nth, List.nil_append, List.cons_append, md, Nat.reducePow, Nat.reduceAdd, Nat.reduceMul]
                  refine RW.det [] rfl rfl rfl rfl (fun _ => rfl) (fun V hV => Det.rel (det_loadR Try.isAgg3 rfl (fun w hw => RowO.rd hw 0 rfl h4) (iv_at (nodesE es) (by omega)))) (fun _ _ _ => rfl) ?_
                  dsimp only [put, List.set, ev, nth, List.nil_append, List.cons_append, md, Nat.reducePow, Nat.reduceAdd, Nat.reduceMul]
                  refine RW.pure rfl rfl (fun _ => rfl) (fun V hV => Det.bv true (det_eqlz rfl rfl) (decide_eq_true hA)) (fun _ _ _ => rfl) ?_
                  dsimp only [put, List.set, ev, nth, List.nil_append, List.cons_append, md, Nat.reducePow, Nat.reduceAdd, Nat.reduceMul]
                  refine RW.pure rfl rfl (fun _ => rfl) (fun V hV => det_move) (fun _ _ _ => rfl) ?_
                  dsimp only [put, List.set, ev, nth, List.nil_append, List.cons_append, md, Nat.reducePow, Nat.reduceAdd, Nat.reduceMul]
                  refine RW.pure rfl rfl (fun _ => rfl) (fun V hV => det_move) (fun _ _ _ => rfl) ?_
                  dsimp only [put, List.set, ev, nth, List.nil_append, List.cons_append, md, Nat.reducePow, Nat.reduceAdd, Nat.reduceMul]
                  refine RW.pure rfl rfl (fun _ => rfl) (fun V hV => det_move) (fun _ _ _ => rfl) ?_
                  dsimp only [put, List.set, ev, nth, List.nil_append, List.cons_append, md, Nat.reducePow, Nat.reduceAdd, Nat.reduceMul]
                  refine RW.pure rfl rfl (fun _ => rfl) (fun V hV => det_move) (fun _ _ _ => rfl) ?_
                  dsimp only [put, List.set, ev, nth, List.nil_append, List.cons_append, md, Nat.reducePow, Nat.reduceAdd, Nat.reduceMul]
                  refine RW.det [] rfl rfl rfl rfl (fun _ => rfl) (fun V hV => Det.rel (det_idxP Try.underlying52 Try.sizeOf59 rfl rfl (rfl) (by omega) (fun w hw => RdP.far hw he))) (fun _ _ _ => rfl) ?_
                  dsimp only [put, List.set, ev, nth, List.nil_append, List.cons_append, md, Nat.reducePow, Nat.reduceAdd, Nat.reduceMul]
                  refine RW.pure rfl rfl (fun _ => rfl) (fun V hV => det_idxAo (j := 0) Try.underlying59 Try.sizeOf3 rfl rfl (rfl) (by omega)) (fun _ _ _ => rfl) ?_
                  dsimp only [put, List.set, ev, nth, List.nil_append, List.cons_append, md, Nat.reducePow, Nat.reduceAdd, Nat.reduceMul]
                  refine RW.det [] rfl rfl rfl rfl (fun _ => rfl) (fun V hV => Det.rel (det_loadP0 Try.isAgg3 rfl (fun w hw => RdP.far hw he) (by omega))) (fun _ _ _ => rfl) ?_
                  dsimp only [put, List.set, ev, nth, List.nil_append, List.cons_append, md, Nat.reducePow, Nat.reduceAdd, Nat.reduceMul]
                  refine RW.det [] rfl rfl rfl rfl (fun _ => rfl) (fun V hV => Rel_call rfl Try.call26 (fun w hw => in_spec (o.map fun i => (nodesE es).getD i 0) (es.getD k (0, 0)).1 v1 (by rw [List.length_map]; omega) w (RowO.rd (hflat0 hw) 1 rfl h1))) (fun _ _ _ => rfl) ?_
                  dsimp only [put, List.set, ev, nth, List.nil_append, List.cons_append, md, Nat.reducePow, Nat.reduceAdd, Nat.reduceMul]
                  refine RW.pure rfl rfl (fun _ => rfl) (fun V hV => det_not rfl) (fun _ _ _ => rfl) ?_
                  dsimp only [put, List.set, ev, nth, List.nil_append, List.cons_append, md, Nat.reducePow, Nat.reduceAdd, Nat.reduceMul]
                  refine RW.pure rfl rfl (fun _ => rfl) (fun V hV => det_pick_true rfl) (fun _ _ _ => rfl) ?_
                  dsimp only [put, List.set, ev, nth, List.nil_append, List.cons_append, md, Nat.reducePow, Nat.reduceAdd, Nat.reduceMul]
                  refine RW.done (fun V => _ ++ flat [] V) rfl rfl (fun _ => rfl) (fun V hV => ?_)
                  try dsimp only [put, blk, flat_nil, List.append_nil, List.append, List.eraseIdx, List.set, ev, nth, List.nil_append, List.cons_append, md, Nat.reducePow, Nat.reduceAdd, Nat.reduceMul]
                  refine WC_cond rfl (fun hc3 => ?_) (fun hc3 => ?_)
                  · have hx : (es.getD k (0, 0)).1 ∉ (o.map fun i => (nodesE es).getD i 0) := by simpa using hc3
                    have hfk : frB es (o.map fun i => (nodesE es).getD i 0) ((nodesE es).getD i 0) (k + 1) = false := by rw [frB_step (by omega), decide_eq_false (fun h => hx (h hA)), Bool.and_false]
                    refine WC_region ?_
                    refine WL_det rfl (det_assign) ?_
                    dsimp only [put, List.set, ev, nth, List.nil_append, List.cons_append, md, Nat.reducePow, Nat.reduceAdd, Nat.reduceMul]
                    refine WL_nil ?_
                    refine WC_region ?_
                    refine WL_det rfl (det_move) ?_
                    dsimp only [put, List.set, ev, nth, List.nil_append, List.cons_append, md, Nat.reducePow, Nat.reduceAdd, Nat.reduceMul]
                    refine WL_det rfl (det_addi (q := 1) rfl rfl (by omega)) ?_
                    dsimp only [put, List.set, ev, nth, List.nil_append, List.cons_append, md, Nat.reducePow, Nat.reduceAdd, Nat.reduceMul]
                    refine WL_det rfl (det_assign) ?_
                    dsimp only [put, List.set, ev, nth, List.nil_append, List.cons_append, md, Nat.reducePow, Nat.reduceAdd, Nat.reduceMul]
                    refine WL_nil ?_
                    refine ⟨k + 1, ?_, ?_, ?_, ?_⟩
                    · rw [hfk]
                      rfl
                    · rfl
                    · omega
                    · omega
                  · have hx : (es.getD k (0, 0)).1 ∈ (o.map fun i => (nodesE es).getD i 0) := by simpa using hc3
                    have hfk : frB es (o.map fun i => (nodesE es).getD i 0) ((nodesE es).getD i 0) (k + 1) = frB es (o.map fun i => (nodesE es).getD i 0) ((nodesE es).getD i 0) k := by rw [frB_step (by omega), decide_eq_true (fun _ => hx), Bool.and_true]
                    refine WC_skip ?_
                    refine WC_region ?_
                    refine WL_det rfl (det_move) ?_
                    dsimp only [put, List.set, ev, nth, List.nil_append, List.cons_append, md, Nat.reducePow, Nat.reduceAdd, Nat.reduceMul]
                    refine WL_det rfl (det_addi (q := 1) rfl rfl (by omega)) ?_
                    dsimp only [put, List.set, ev, nth, List.nil_append, List.cons_append, md, Nat.reducePow, Nat.reduceAdd, Nat.reduceMul]
                    refine WL_det rfl (det_assign) ?_
                    dsimp only [put, List.set, ev, nth, List.nil_append, List.cons_append, md, Nat.reducePow, Nat.reduceAdd, Nat.reduceMul]
                    refine WL_nil ?_
                    refine ⟨k + 1, ?_, ?_, ?_, ?_⟩
                    · rw [hfk]
                      rfl
                    · rfl
                    · omega
                    · omega
                · refine WC_draw [[], [], [0, 1], [0, 1, 2], [0, 1, 2, 3], [], [], [5, 6], [5, 6, 7], [0, 1, 2, 3, 4, 5, 6, 7, 8], [0, 1, 2, 3, 4, 5, 6, 7, 8, 9], [0, 1, 2, 3, 4, 5, 6, 7, 8, 9, 10], [0, 1, 2, 3, 4, 5, 6, 7, 8, 9, 10], [0, 1, 2, 3, 4, 5, 6, 7, 8, 9, 10], [0, 1, 2, 3, 4, 5, 6, 7, 8, 9, 10, 12, 13], [0, 1, 2, 3, 4, 5, 6, 7, 8, 9, 10, 12, 13, 14], [0, 1, 2, 3, 4, 5, 6, 7, 8, 9, 10, 12, 13, 14, 15], [0, 1, 2, 3, 4, 5, 6, 7, 8, 9, 10, 11, 12, 13, 14, 15, 16], [0, 1, 2, 3, 4, 5, 6, 7, 8, 9, 10, 11, 12, 13, 14, 15, 16, 17], [0, 1, 2, 3, 4, 5, 6, 7, 8, 9, 10, 11, 12, 13, 14, 15, 16, 17, 18]] [] 72 [] (List.nil_sublist _) mixed rfl (by decide) ?_
                  refine RW.pure rfl rfl (fun _ => rfl) (fun V hV => det_move) (fun _ _ _ => rfl) ?_
                  dsimp only [put, List.set, ev, nth, List.nil_append, List.cons_append, md, Nat.reducePow, Nat.reduceAdd, Nat.reduceMul]
                  refine RW.pure rfl rfl (fun _ => rfl) (fun V hV => det_move) (fun _ _ _ => rfl) ?_
                  dsimp only [put, List.set, ev, nth, List.nil_append, List.cons_append, md, Nat.reducePow, Nat.reduceAdd, Nat.reduceMul]
                  refine RW.det [] rfl rfl rfl rfl (fun _ => rfl) (fun V hV => Det.rel (det_idxP Try.underlying52 Try.sizeOf59 rfl rfl (rfl) (by omega) (fun w hw => RdP.far hw he))) (fun _ _ _ => rfl) ?_
                  dsimp only [put, List.set, ev, nth, List.nil_append, List.cons_append, md, Nat.reducePow, Nat.reduceAdd, Nat.reduceMul]
                  refine RW.pure rfl rfl (fun _ => rfl) (fun V hV => det_idxAo (j := 1) Try.underlying59 Try.sizeOf3 rfl rfl (rfl) (by omega)) (fun _ _ _ => rfl) ?_
                  dsimp only [put, List.set, ev, nth, List.nil_append, List.cons_append, md, Nat.reducePow, Nat.reduceAdd, Nat.reduceMul]
                  refine RW.det [] rfl rfl rfl rfl (fun _ => rfl) (fun V hV => Det.rel (det_loadP1 Try.isAgg3 rfl (fun w hw => RdP.far hw he) (by omega))) (fun _ _ _ => rfl) ?_
                  dsimp only [put, List.set, ev, nth, List.nil_append, List.cons_append, md, Nat.reducePow, Nat.reduceAdd, Nat.reduceMul]
                  refine RW.pure rfl rfl (fun _ => rfl) (fun V hV => det_move) (fun _ _ _ => rfl) ?_
                  dsimp only [put, List.set, ev, nth, List.nil_append, List.cons_append, md, Nat.reducePow, Nat.reduceAdd, Nat.reduceMul]
                  refine RW.pure rfl rfl (fun _ => rfl) (fun V hV => det_move) (fun _ _ _ => rfl) ?_
                  dsimp only [put, List.set, ev, nth, List.nil_append, List.cons_append, md, Nat.reducePow, Nat.reduceAdd, Nat.reduceMul]
                  refine RW.det [] rfl rfl rfl rfl (fun _ => rfl) (fun V hV => Det.rel (det_idxR Try.underlying43 Try.sizeOf3 rfl rfl (rfl) (by rw [iv_len]; omega) (fun w hw => RowO.rd hw 0 rfl h4))) (fun _ _ _ => rfl) ?_
                  dsimp only [put, List.set, ev, nth, List.nil_append, List.cons_append, md, Nat.reducePow, Nat.reduceAdd, Nat.reduceMul]
                  refine RW.det [] rfl rfl rfl rfl (fun _ => rfl) (fun V hV => Det.rel (det_loadR Try.isAgg3 rfl (fun w hw => RowO.rd hw 0 rfl h4) (iv_at (nodesE es) (by omega)))) (fun _ _ _ => rfl) ?_
                  dsimp only [put, List.set, ev, nth, List.nil_append, List.cons_append, md, Nat.reducePow, Nat.reduceAdd, Nat.reduceMul]
                  refine RW.pure rfl rfl (fun _ => rfl) (fun V hV => Det.bv false (det_eqlz rfl rfl) (decide_eq_false hA)) (fun _ _ _ => rfl) ?_
                  dsimp only [put, List.set, ev, nth, List.nil_append, List.cons_append, md, Nat.reducePow, Nat.reduceAdd, Nat.reduceMul]
                  refine RW.pure rfl rfl (fun _ => rfl) (fun V hV => det_move) (fun _ _ _ => rfl) ?_
                  dsimp only [put, List.set, ev, nth, List.nil_append, List.cons_append, md, Nat.reducePow, Nat.reduceAdd, Nat.reduceMul]
                  refine RW.skip rfl rfl (fun _ => rfl) ?_
                  dsimp only [put, List.set, ev, nth, List.nil_append, List.cons_append, md, Nat.reducePow, Nat.reduceAdd, Nat.reduceMul]
                  refine RW.skip rfl rfl (fun _ => rfl) ?_
                  dsimp only [put, List.set, ev, nth, List.nil_append, List.cons_append, md, Nat.reducePow, Nat.reduceAdd, Nat.reduceMul]
                  refine RW.skip rfl rfl (fun _ => rfl) ?_
                  dsimp only [put, List.set, ev, nth, List.nil_append, List.cons_append, md, Nat.reducePow, Nat.reduceAdd, Nat.reduceMul]
                  refine RW.skip rfl rfl (fun _ => rfl) ?_
                  dsimp only [put, List.set, ev, nth, List.nil_append, List.cons_append, md, Nat.reducePow, Nat.reduceAdd, Nat.reduceMul]
                  refine RW.skip rfl rfl (fun _ => rfl) ?_
                  dsimp only [put, List.set, ev, nth, List.nil_append, List.cons_append, md, Nat.reducePow, Nat.reduceAdd, Nat.reduceMul]
                  refine RW.skip rfl rfl (fun _ => rfl) ?_
                  dsimp only [put, List.set, ev, nth, List.nil_append, List.cons_append, md, Nat.reducePow, Nat.reduceAdd, Nat.reduceMul]
                  refine RW.skip rfl rfl (fun _ => rfl) ?_
                  dsimp only [put, List.set, ev, nth, List.nil_append, List.cons_append, md, Nat.reducePow, Nat.reduceAdd, Nat.reduceMul]
                  refine RW.skip rfl rfl (fun _ => rfl) ?_
                  dsimp only [put, List.set, ev, nth, List.nil_append, List.cons_append, md, Nat.reducePow, Nat.reduceAdd, Nat.reduceMul]
                  refine RW.pure rfl rfl (fun _ => rfl) (fun V hV => det_pick_false rfl) (fun _ _ _ => rfl) ?_
                  dsimp only [put, List.set, ev, nth, List.nil_append, List.cons_append, md, Nat.reducePow, Nat.reduceAdd, Nat.reduceMul]
                  refine RW.done (fun V => _ ++ flat [] V) rfl rfl (fun _ => rfl) (fun V hV => ?_)
                  try dsimp only [put, blk, flat_nil, List.append_nil, List.append, List.eraseIdx, List.set, ev, nth, List.nil_append, List.cons_append, md, Nat.reducePow, Nat.reduceAdd, Nat.reduceMul]
                  have hfk : frB es (o.map fun i => (nodesE es).getD i 0) ((nodesE es).getD i 0) (k + 1) = frB es (o.map fun i => (nodesE es).getD i 0) ((nodesE es).getD i 0) k := by rw [frB_step (by omega), decide_eq_true (fun h => absurd h hA), Bool.and_true]
                  refine WC_cond_false rfl ?_
                  refine WC_skip ?_
                  refine WC_region ?_
                  refine WL_det rfl (det_move) ?_
                  dsimp only [put, List.set, ev, nth, List.nil_append, List.cons_append, md, Nat.reducePow, Nat.reduceAdd, Nat.reduceMul]
                  refine WL_det rfl (det_addi (q := 1) rfl rfl (by omega)) ?_
                  dsimp only [put, List.set, ev, nth, List.nil_append, List.cons_append, md, Nat.reducePow, Nat.reduceAdd, Nat.reduceMul]
                  refine WL_det rfl (det_assign) ?_
                  dsimp only [put, List.set, ev, nth, List.nil_append, List.cons_append, md, Nat.reducePow, Nat.reduceAdd, Nat.reduceMul]
                  refine WL_nil ?_
                  refine ⟨k + 1, ?_, ?_, ?_, ?_⟩
                  · rw [hfk]
                    rfl
                  · rfl
                  · omega
                  · omega
              · have hc2 := of_decide_eq_false hc2
                obtain rfl : k = es.length := by omega
                rw [frB_all hI hin]
                refine WC_exit ?_
                refine inB_same ?_
                refine WC_seq ?_
                refine WC_region ?_
                refine WL_det rfl (det_move) ?_
                dsimp only [put, List.set, ev, nth, List.nil_append, List.cons_append, md, Nat.reducePow, Nat.reduceAdd, Nat.reduceMul]
                refine WL_nil ?_
                refine WC_cond rfl (fun hc4 => ?_) (fun hc4 => ?_)
                · have hc4 := of_decide_eq_true hc4
                  obtain ⟨nxt, hnxt⟩ : ∃ z : Int, z = (i : Int) := ⟨_, rfl⟩
                  have hst : (nxt = -1 ∧ ∀ j, j < i + 1 → D.getD j 0 ≠ 0) ∨ (0 ∈ D ∧ nxt = ((D.idxOf 0 : Nat) : Int)) := .inr (by obtain ⟨h1, h2⟩ := idx_found (L := D) (d := 0) (by rw [hI.len]; exact hin) hall hc4.symm; exact ⟨h2, by rw [h1]; exact hnxt⟩)
                  refine WC_region ?_
                  refine WL_det rfl (det_move) ?_
                  dsimp only [put, List.set, ev, nth, List.nil_append, List.cons_append, md, Nat.reducePow, Nat.reduceAdd, Nat.reduceMul]
                  refine WL_det rfl (det_assign) ?_
                  dsimp only [put, List.set, ev, nth, List.nil_append, List.cons_append, md, Nat.reducePow, Nat.reduceAdd, Nat.reduceMul]
                  refine WL_nil ?_
                  refine WC_region ?_
                  refine WL_det rfl (det_move) ?_
                  dsimp only [put, List.set, ev, nth, List.nil_append, List.cons_append, md, Nat.reducePow, Nat.reduceAdd, Nat.reduceMul]
                  refine WL_det rfl (det_addi (q := 1) rfl rfl (by omega)) ?_
                  dsimp only [put, List.set, ev, nth, List.nil_append, List.cons_append, md, Nat.reducePow, Nat.reduceAdd, Nat.reduceMul]
                  refine WL_det rfl (det_assign) ?_
                  dsimp only [put, List.set, ev, nth, List.nil_append, List.cons_append, md, Nat.reducePow, Nat.reduceAdd, Nat.reduceMul]
                  refine WL_nil ?_
                  refine ⟨(i + 1, nxt), ?_, ?_, ?_, ?_⟩
                  · rw [hnxt]
                    rfl
                  · rfl
                  · exact ⟨by dsimp only; omega, hst⟩
                  · dsimp only; omega
                · have hc4 := of_decide_eq_false hc4
                  obtain ⟨nxt, hnxt⟩ : ∃ z : Int, z = nx := ⟨_, rfl⟩
                  have hst : (nxt = -1 ∧ ∀ j, j < i + 1 → D.getD j 0 ≠ 0) ∨ (0 ∈ D ∧ nxt = ((D.idxOf 0 : Nat) : Int)) := .inl ⟨hnxt.trans hnx1, fun j hj => by rcases Nat.lt_succ_iff_lt_or_eq.1 hj with h | rfl; exact hall j h; exact hc4⟩
                  refine WC_skip ?_
                  refine WC_region ?_
                  refine WL_det rfl (det_move) ?_
                  dsimp only [put, List.set, ev, nth, List.nil_append, List.cons_append, md, Nat.reducePow, Nat.reduceAdd, Nat.reduceMul]
                  refine WL_det rfl (det_addi (q := 1) rfl rfl (by omega)) ?_
                  dsimp only [put, List.set, ev, nth, List.nil_append, List.cons_append, md, Nat.reducePow, Nat.reduceAdd, Nat.reduceMul]
                  refine WL_det rfl (det_assign) ?_
                  dsimp only [put, List.set, ev, nth, List.nil_append, List.cons_append, md, Nat.reducePow, Nat.reduceAdd, Nat.reduceMul]
                  refine WL_nil ?_
                  refine ⟨(i + 1, nxt), ?_, ?_, ?_, ?_⟩
                  · rw [hnxt]
                    rfl
                  · rfl
                  · exact ⟨by dsimp only; omega, hst⟩
                  · dsimp only; omega
          · have hc1 := of_decide_eq_false hc1
            have hnx : nx = idxI D 0 := by
              rcases hor with ⟨ha, hb⟩ | ⟨ha, hb⟩
              · rw [ha, idxI, if_neg (idx_none (d := 0) fun j hj => hb j (by rw [hI.len] at hj; omega))]
              · rw [hb, idxI, if_pos ha]
            clear hor
            subst hnx
            refine WC_exit ?_
            refine inB_same ?_
            refine WC_seq ?_
            refine WC_seq ?_
            refine WC_region ?_
            refine WL_det rfl (det_move) ?_
            dsimp only [put, List.set, ev, nth, List.nil_append, List.cons_append, md, Nat.reducePow, Nat.reduceAdd, Nat.reduceMul]
            refine WL_det rfl (det_lssz rfl rfl) ?_
            dsimp only [put, List.set, ev, nth, List.nil_append, List.cons_append, md, Nat.reducePow, Nat.reduceAdd, Nat.reduceMul]
            refine WL_nil ?_
            refine WC_cond rfl (fun hcz => ?_) (fun hcz => ?_)
            · have hcz := of_decide_eq_true hcz
              have hz : 0 ∉ D := fun h => by rw [idxI, if_pos h] at hcz; omega
              rw [if_neg hz] at hre
              have hfin : ordE es = ([], false) := by unfold ordE; rw [← hre]; rfl
              refine WC_seq ?_
              refine WC_region ?_
              refine WL_det rfl (det_assign) ?_
              dsimp only [put, List.set, ev, nth, List.nil_append, List.cons_append, md, Nat.reducePow, Nat.reduceAdd, Nat.reduceMul]
              refine WL_det rfl (det_assign) ?_
              dsimp only [put, List.set, ev, nth, List.nil_append, List.cons_append, md, Nat.reducePow, Nat.reduceAdd, Nat.reduceMul]
              refine WL_nil ?_
              refine WC_ret ?_
              refine inB_ret ?_
              refine inB_ret ?_
              refine fin_tmp2 Try.results35 rfl rfl ([e1]) (.cons _ (List.Sublist.refl _)) ?_
              exact ⟨.slice none 0 0, e1, by rw [hfin]; rfl, by rw [hfin]; exact RowO.nil _ _, rfl⟩
            · have hcz := of_decide_eq_false hcz
              have hz : 0 ∈ D := Classical.byContradiction fun h => hcz (by rw [idxI, if_neg h]; omega)
              rw [if_pos hz] at hre
              rw [show idxI D 0 = ((D.idxOf 0 : Nat) : Int) from if_pos hz]
              have hi0 : D.idxOf 0 < (nodesE es).length := hI.len ▸ List.idxOf_lt_length_iff.2 hz
              have hd0 : D.getD (D.idxOf 0) 0 = 0 := getD_some (get_idx hz)
              generalize D.idxOf 0 = i0 at *
              refine WC_skip ?_
              refine WC_region ?_
              refine WL_det rfl (det_move) ?_
              dsimp only [put, List.set, ev, nth, List.nil_append, List.cons_append, md, Nat.reducePow, Nat.reduceAdd, Nat.reduceMul]
              refine WL_det rfl (det_move) ?_
              dsimp only [put, List.set, ev, nth, List.nil_append, List.cons_append, md, Nat.reducePow, Nat.reduceAdd, Nat.reduceMul]
              refine WL_det rfl (det_move) ?_
              dsimp only [put, List.set, ev, nth, List.nil_append, List.cons_append, md, Nat.reducePow, Nat.reduceAdd, Nat.reduceMul]
              refine WL_det rfl (det_idxR (j := i0) Try.underlying43 Try.sizeOf3 rfl rfl (rfl) (by rw [iv_len]; exact hi0) (fun w hw => RowO.rd hw 0 rfl h4)) ?_
              dsimp only [put, List.set, ev, nth, List.nil_append, List.cons_append, md, Nat.reducePow, Nat.reduceAdd, Nat.reduceMul]
              refine WL_det rfl (det_loadR Try.isAgg3 rfl (fun w hw => RowO.rd hw 0 rfl h4) (iv_at (nodesE es) (hi0))) ?_
              dsimp only [put, List.set, ev, nth, List.nil_append, List.cons_append, md, Nat.reducePow, Nat.reduceAdd, Nat.reduceMul]
              refine WL_rel rfl (rel_lit1 Try.underlying43 Try.zeroValue3 Try.sizeOf3 rfl rfl) ?_
              rintro _ _ ⟨bl, rfl, rfl⟩
              dsimp only [put, List.set, ev, nth, List.nil_append, List.cons_append, md, Nat.reducePow, Nat.reduceAdd, Nat.reduceMul]
              refine WL_chg rfl (chg_appendO1 1 2 rfl (by decide) (h1) rfl rfl rfl rfl Try.underlying43 ei3 rfl (by rw [iv_len, List.length_map]; omega) (by decide)) ?_
              rintro v70 _ ⟨e70, hr70, rfl⟩
              dsimp only [put, List.eraseIdx, List.set, ev, nth, List.nil_append, List.cons_append, md, Nat.reducePow, Nat.reduceAdd, Nat.reduceMul]
              rw [iv_snoc] at hr70
              rw [show (o.map fun i => (nodesE es).getD i 0) ++ [(nodesE es).getD i0 0] = (o ++ [i0]).map fun i => (nodesE es).getD i 0 by simp] at hr70
              refine WL_det rfl (det_assign) ?_
              dsimp only [put, List.set, ev, nth, List.nil_append, List.cons_append, md, Nat.reducePow, Nat.reduceAdd, Nat.reduceMul]
              refine WL_nil ?_
              refine ⟨(decL (D.set i0 (-1)) (outE es i0), o ++ [i0], v70, e70), ?_, ?_, ?_, ?_⟩
              · rfl
              · rfl
              · refine ⟨hI.step hi0 hd0, by dsimp only; rw [List.length_append, List.length_singleton]; omega, hr70, ?_⟩
                dsimp only
                rw [List.length_append, List.length_singleton, show (nodesE es).length - (o.length + 1) = f by omega]
                exact hre
              · dsimp only; rw [List.length_append, List.length_singleton]; omega
        · refine WC_region ?_
          refine WL_det rfl (det_move) ?_
          dsimp only [put, List.set, ev, nth, List.nil_append, List.cons_append, md, Nat.reducePow, Nat.reduceAdd, Nat.reduceMul]
          refine WL_det rfl (det_move) ?_
          dsimp only [put, List.set, ev, nth, List.nil_append, List.cons_append, md, Nat.reducePow, Nat.reduceAdd, Nat.reduceMul]
          refine WL_det rfl (det_lenR Try.underlying43 rfl (fun w hw => RowO.rd hw 0 rfl h4) (iv_len (nodesE es))) ?_
          dsimp only [put, List.set, ev, nth, List.nil_append, List.cons_append, md, Nat.reducePow, Nat.reduceAdd, Nat.reduceMul]
          refine WL_det rfl (Det.bv false (det_lss rfl rfl) (decide_eq_false hin)) ?_
          dsimp only [put, List.set, ev, nth, List.nil_append, List.cons_append, md, Nat.reducePow, Nat.reduceAdd, Nat.reduceMul]
          refine WL_det rfl (det_move) ?_
          dsimp only [put, List.set, ev, nth, List.nil_append, List.cons_append, md, Nat.reducePow, Nat.reduceAdd, Nat.reduceMul]
          refine WL_skipG ?_ ?_
          · rfl
          dsimp only [put, List.set, ev, nth, List.nil_append, List.cons_append, md, Nat.reducePow, Nat.reduceAdd, Nat.reduceMul]
          refine WL_skipG ?_ ?_
          · rfl
          dsimp only [put, List.set, ev, nth, List.nil_append, List.cons_append, md, Nat.reducePow, Nat.reduceAdd, Nat.reduceMul]
          refine WL_det rfl (det_pick_false rfl) ?_
          dsimp only [put, List.set, ev, nth, List.nil_append, List.cons_append, md, Nat.reducePow, Nat.reduceAdd, Nat.reduceMul]
          refine WL_nil ?_
          have hnx : nx = idxI D 0 := by
            rcases hor with ⟨ha, hb⟩ | ⟨ha, hb⟩
            · rw [ha, idxI, if_neg (idx_none (d := 0) fun j hj => hb j (by rw [hI.len] at hj; omega))]
            · rw [hb, idxI, if_pos ha]
          clear hor
          subst hnx
          refine WC_cond_false rfl ?_
          refine WC_exit ?_
          refine inB_same ?_
          refine WC_seq ?_
          refine WC_seq ?_
          refine WC_region ?_
          refine WL_det rfl (det_move) ?_
          dsimp only [put, List.set, ev, nth, List.nil_append, List.cons_append, md, Nat.reducePow, Nat.reduceAdd, Nat.reduceMul]
          refine WL_det rfl (det_lssz rfl rfl) ?_
          dsimp only [put, List.set, ev, nth, List.nil_append, List.cons_append, md, Nat.reducePow, Nat.reduceAdd, Nat.reduceMul]
          refine WL_nil ?_
          refine WC_cond rfl (fun hcz => ?_) (fun hcz => ?_)
          · have hcz := of_decide_eq_true hcz
            have hz : 0 ∉ D := fun h => by rw [idxI, if_pos h] at hcz; omega
            rw [if_neg hz] at hre
            have hfin : ordE es = ([], false) := by unfold ordE; rw [← hre]; rfl
            refine WC_seq ?_
            refine WC_region ?_
            refine WL_det rfl (det_assign) ?_
            dsimp only [put, List.set, ev, nth, List.nil_append, List.cons_append, md, Nat.reducePow, Nat.reduceAdd, Nat.reduceMul]
            refine WL_det rfl (det_assign) ?_
            dsimp only [put, List.set, ev, nth, List.nil_append, List.cons_append, md, Nat.reducePow, Nat.reduceAdd, Nat.reduceMul]
            refine WL_nil ?_
            refine WC_ret ?_
            refine inB_ret ?_
            refine inB_ret ?_
            refine fin_tmp2 Try.results35 rfl rfl ([e1]) (.cons _ (List.Sublist.refl _)) ?_
            exact ⟨.slice none 0 0, e1, by rw [hfin]; rfl, by rw [hfin]; exact RowO.nil _ _, rfl⟩
          · have hcz := of_decide_eq_false hcz
            have hz : 0 ∈ D := Classical.byContradiction fun h => hcz (by rw [idxI, if_neg h]; omega)
            rw [if_pos hz] at hre
            rw [show idxI D 0 = ((D.idxOf 0 : Nat) : Int) from if_pos hz]
            have hi0 : D.idxOf 0 < (nodesE es).length := hI.len ▸ List.idxOf_lt_length_iff.2 hz
            have hd0 : D.getD (D.idxOf 0) 0 = 0 := getD_some (get_idx hz)
            generalize D.idxOf 0 = i0 at *
            refine WC_skip ?_
            refine WC_region ?_
            refine WL_det rfl (det_move) ?_
            dsimp only [put, List.set, ev, nth, List.nil_append, List.cons_append, md, Nat.reducePow, Nat.reduceAdd, Nat.reduceMul]
            refine WL_det rfl (det_move) ?_
            dsimp only [put, List.set, ev, nth, List.nil_append, List.cons_append, md, Nat.reducePow, Nat.reduceAdd, Nat.reduceMul]
            refine WL_det rfl (det_move) ?_
            dsimp only [put, List.set, ev, nth, List.nil_append, List.cons_append, md, Nat.reducePow, Nat.reduceAdd, Nat.reduceMul]
            refine WL_det rfl (det_idxR (j := i0) Try.underlying43 Try.sizeOf3 rfl rfl (rfl) (by rw [iv_len]; exact hi0) (fun w hw => RowO.rd hw 0 rfl h4)) ?_
            dsimp only [put, List.set, ev, nth, List.nil_append, List.cons_append, md, Nat.reducePow, Nat.reduceAdd, Nat.reduceMul]
            refine WL_det rfl (det_loadR Try.isAgg3 rfl (fun w hw => RowO.rd hw 0 rfl h4) (iv_at (nodesE es) (hi0))) ?_
            dsimp only [put, List.set, ev, nth, List.nil_append, List.cons_append, md, Nat.reducePow, Nat.reduceAdd, Nat.reduceMul]
            refine WL_rel rfl (rel_lit1 Try.underlying43 Try.zeroValue3 Try.sizeOf3 rfl rfl) ?_
            rintro _ _ ⟨bl, rfl, rfl⟩
            dsimp only [put, List.set, ev, nth, List.nil_append, List.cons_append, md, Nat.reducePow, Nat.reduceAdd, Nat.reduceMul]
            refine WL_chg rfl (chg_appendO1 1 2 rfl (by decide) (h1) rfl rfl rfl rfl Try.underlying43 ei3 rfl (by rw [iv_len, List.length_map]; omega) (by decide)) ?_
            rintro v70 _ ⟨e70, hr70, rfl⟩
            dsimp only [put, List.eraseIdx, List.set, ev, nth, List.nil_append, List.cons_append, md, Nat.reducePow, Nat.reduceAdd, Nat.reduceMul]
            rw [iv_snoc] at hr70
            rw [show (o.map fun i => (nodesE es).getD i 0) ++ [(nodesE es).getD i0 0] = (o ++ [i0]).map fun i => (nodesE es).getD i 0 by simp] at hr70
            refine WL_det rfl (det_assign) ?_
            dsimp only [put, List.set, ev, nth, List.nil_append, List.cons_append, md, Nat.reducePow, Nat.reduceAdd, Nat.reduceMul]
            refine WL_nil ?_
            refine ⟨(decL (D.set i0 (-1)) (outE es i0), o ++ [i0], v70, e70), ?_, ?_, ?_, ?_⟩
            · rfl
            · rfl
            · refine ⟨hI.step hi0 hd0, by dsimp only; rw [List.length_append, List.length_singleton]; omega, hr70, ?_⟩
              dsimp only
              rw [List.length_append, List.length_singleton, show (nodesE es).length - (o.length + 1) = f by omega]
              exact hre
            · dsimp only; rw [List.length_append, List.length_singleton]; omega
    · have hc0 := of_decide_eq_false hc0
      rw [List.length_map] at hc0
      rw [show (nodesE es).length - o.length = 0 by omega, ordR] at hre
      refine WC_exit ?_
      refine inB_same ?_
      refine WC_seq ?_
      refine WC_region ?_
      refine WL_det rfl (det_move) ?_
      dsimp only [put, List.set, ev, nth, List.nil_append, List.cons_append, md, Nat.reducePow, Nat.reduceAdd, Nat.reduceMul]
      refine WL_det rfl (det_assign) ?_
      dsimp only [put, List.set, ev, nth, List.nil_append, List.cons_append, md, Nat.reducePow, Nat.reduceAdd, Nat.reduceMul]
      refine WL_det rfl (det_assign) ?_
      dsimp only [put, List.set, ev, nth, List.nil_append, List.cons_append, md, Nat.reducePow, Nat.reduceAdd, Nat.reduceMul]
      refine WL_nil ?_
      refine WC_ret ?_
      refine fin_tmp2 Try.results35 rfl rfl ([e1]) (.cons _ (List.Sublist.refl _)) ?_
      exact ⟨v1, e1, by unfold ordE; rw [← hre]; rfl, by unfold ordE; rw [← hre]; exact h1, rfl⟩

end Go.Proofs.Ytocmlaloafmfkaa
