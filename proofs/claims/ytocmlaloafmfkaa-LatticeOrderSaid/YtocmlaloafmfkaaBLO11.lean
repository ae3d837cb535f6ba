/- What the claim of this folder needs of its texts, put together by a program of this claim. Conditions: none. -/
import Derived.Test.YtocmlaloafmfkaaBLO10
set_option linter.unusedSectionVars false
set_option linter.unusedSimpArgs false
set_option linter.unusedVariables false
set_option linter.unusedVariables false
namespace Go.Proofs.Ytocmlaloafmfkaa
open Go.MW
theorem IsG.getO {α : Type} [DecidableEq α] {es : List (α × α)} {N : List α} {O : Nat → List Nat} (h : IsG es N O) {i : Nat} {a : α} (hO : O i = (succ es a).map N.idxOf) {q : Nat} (hq : q < (O i).length) (d : α) :
    (O i).getD q 0 < N.length ∧ N.getD ((O i).getD q 0) d = (succ es a).getD q d := by
  rw [hO] at hq ⊢
  rw [List.length_map] at hq
  have hs : (succ es a)[q]? = some (succ es a)[q] := List.getElem?_eq_getElem hq
  have hm : (succ es a)[q] ∈ N := by rw [h.nodes]; exact succ_node (List.getElem_mem hq)
  have e1 : ((succ es a).map N.idxOf).getD q 0 = N.idxOf (succ es a)[q] := by simp [List.getD_eq_getElem?_getD, hs]
  rw [e1]
  refine ⟨List.idxOf_lt_length_iff.2 hm, ?_⟩
  rw [List.getD_eq_getElem?_getD, get_idx hm, List.getD_eq_getElem?_getD, hs]

set_option maxRecDepth 100000 in
set_option maxHeartbeats 4000000 in
theorem searchI_spec (gb : Nat) (es : List (Int × Int)) (F : List Int) (fv : Value) (hes : es.length ≤ 200) (hF : F.length ≤ 400) (w : World) (hG : GW intK 103 gb es w) (hf : RdL w (iv F) fv) :
    Calls Try.prog 50 [.pointer (some ⟨gb, 0, none⟩), fv].toArray w (Post w (fun v m => ∃ v1 v2 e1 e2, v = .tuple #[v1, v2] ∧ RowO 3 (iv ((srch es F).map Prod.fst)) v1 e1 ∧ RowO 3 (iv ((srch es F).map Prod.snd)) v2 e2 ∧ m = [e1, e2])) := by
  obtain ⟨N, O, hGr, hG⟩ := hG
  have hG0 := hG
  obtain ⟨mb, nv0, ov, rv, hgb, hmb, hn, ho, hrow⟩ := hG
  have hn : RdL w (iv N) nv0 := hn
  have hnl := nodes_len es
  have hN : N.length ≤ 1000 := by rw [hGr.nodes]; omega
  have hO : ∀ i, (O i).length ≤ 1000 := fun i => by have := hGr.olen i; omega
  have hb : bndA es F ≤ 1000 := by unfold bndA; omega
  refine calls_of_WC Try.func50 rfl ?_
  simp only [Try.ntmps50, List.length_cons, List.length_nil, Nat.reduceAdd, Nat.reduceSub, List.replicate, List.cons_append, List.nil_append]
  refine WC_seq ?_
  refine WC_region ?_
  refine WL_det rfl (det_assign) ?_
  dsimp only [put, List.set, ev, nth, List.nil_append, List.cons_append, md, Nat.reducePow, Nat.reduceAdd, Nat.reduceMul]
  refine WL_det rfl (det_assign) ?_
  dsimp only [put, List.set, ev, nth, List.nil_append, List.cons_append, md, Nat.reducePow, Nat.reduceAdd, Nat.reduceMul]
  refine WL_nil ?_
  refine WC_seq ?_
  refine WC_region ?_
  refine WL_rel rfl (rel_makeMap) ?_
  rintro _ _ ⟨b0, rfl, rfl⟩
  dsimp only [put, List.set, ev, nth, List.nil_append, List.cons_append, md, Nat.reducePow, Nat.reduceAdd, Nat.reduceMul]
  refine WL_det rfl (det_assign) ?_
  dsimp only [put, List.set, ev, nth, List.nil_append, List.cons_append, md, Nat.reducePow, Nat.reduceAdd, Nat.reduceMul]
  refine WL_nil ?_
  refine WC_seq ?_
  refine WC_seq ?_
  refine WC_region ?_
  refine WL_det rfl (det_move) ?_
  dsimp only [put, List.set, ev, nth, List.nil_append, List.cons_append, md, Nat.reducePow, Nat.reduceAdd, Nat.reduceMul]
  refine WL_det rfl (det_lenR Try.underlying43 rfl (fun w hw => RdL.far hw hf) (iv_len F)) ?_
  dsimp only [put, List.set, ev, nth, List.nil_append, List.cons_append, md, Nat.reducePow, Nat.reduceAdd, Nat.reduceMul]
  refine WL_det rfl (det_move) ?_
  dsimp only [put, List.set, ev, nth, List.nil_append, List.cons_append, md, Nat.reducePow, Nat.reduceAdd, Nat.reduceMul]
  refine WL_nil ?_
  refine WC_block ?_
  refine WC.addNone (.cells #[] 3 (0, 0)) ?_
  dsimp only [List.cons_append, List.nil_append]
  refine WC.addNone (.cells #[] 3 (0, 0)) ?_
  dsimp only [List.cons_append, List.nil_append]
  refine WC_loopS (ι := Nat × Value × (Option Nat × Obj) × Value × (Option Nat × Obj)) [23, 24, 25, 8, 27, 28, 29, 26, 30, 31, 9, 10, 32, 33, 34, 35, 36, 37, 38, 39, 40, 41, 42, 43, 44, 45] (fun x => [(22, vn .i64 (x.1)), (4, x.2.1), (5, x.2.2.2.1)]) (fun x => [(0, (some b0, mapO intK ((sdA F (x.1)).map Prod.fst))), (1, x.2.2.1), (2, x.2.2.2.2)]) (fun x => x.1 ≤ F.length ∧ RowO 3 (iv ((sdA F (x.1)).map Prod.fst)) x.2.1 x.2.2.1 ∧ RowO 3 (iv ((sdA F (x.1)).map Prod.snd)) x.2.2.2.1 x.2.2.2.2) (fun x => F.length - x.1) (0, .slice none 0 0, (none, .cells #[] 3 (0, 0)), .slice none 0 0, (none, .cells #[] 3 (0, 0))) ?_ ?_ ?_ ?_
  · rfl
  · rfl
  · exact ⟨Nat.zero_le _, RowO.nil _ _, RowO.nil _ _⟩
  · rintro ⟨k, v1, e1, v2, e2⟩ g' ⟨hk, h1, h2⟩
    dsimp only [setAll, setG, setM, List.set]
    dsimp only at hk h1 h2
    have hl := sdA_len F k
    refine WC_seq ?_
    refine WC_region ?_
    refine WL_det rfl (det_lss rfl rfl) ?_
    dsimp only [put, List.set, ev, nth, List.nil_append, List.cons_append, md, Nat.reducePow, Nat.reduceAdd, Nat.reduceMul]
    refine WL_nil ?_
    refine WC_seq ?_
    refine WC_cond rfl (fun hc0 => ?_) (fun hc0 => ?_)
    · have hc0 := of_decide_eq_true hc0
      refine WC_skip ?_
      refine WC_seq ?_
      refine WC_block ?_
      refine WC_seq ?_
      refine WC_region ?_
      refine WL_det rfl (det_idxR Try.underlying43 Try.sizeOf3 rfl rfl (rfl) (by rw [iv_len]; omega) (fun w hw => RdL.far hw hf)) ?_
      dsimp only [put, List.set, ev, nth, List.nil_append, List.cons_append, md, Nat.reducePow, Nat.reduceAdd, Nat.reduceMul]
      refine WL_det rfl (det_loadR Try.isAgg3 rfl (fun w hw => RdL.far hw hf) (iv_at F (by omega))) ?_
      dsimp only [put, List.set, ev, nth, List.nil_append, List.cons_append, md, Nat.reducePow, Nat.reduceAdd, Nat.reduceMul]
      refine WL_det rfl (det_assign) ?_
      dsimp only [put, List.set, ev, nth, List.nil_append, List.cons_append, md, Nat.reducePow, Nat.reduceAdd, Nat.reduceMul]
      refine WL_nil ?_
      refine WC_seq ?_
      refine WC_region ?_
      refine WL_det rfl (det_move) ?_
      dsimp only [put, List.set, ev, nth, List.nil_append, List.cons_append, md, Nat.reducePow, Nat.reduceAdd, Nat.reduceMul]
      refine WL_det rfl (det_move) ?_
      dsimp only [put, List.set, ev, nth, List.nil_append, List.cons_append, md, Nat.reducePow, Nat.reduceAdd, Nat.reduceMul]
      refine WL_det rfl (det_look intK (L := ((sdA F (k)).map Prod.fst)) ((F.getD k 0)) Try.underlying100 Try.underlying3 Try.zeroValue3 rfl rfl (fun w hw => hw.at 0 rfl)) ?_
      dsimp only [put, List.set, ev, nth, List.nil_append, List.cons_append, md, Nat.reducePow, Nat.reduceAdd, Nat.reduceMul]
      refine WL_det rfl (det_move) ?_
      dsimp only [put, List.set, ev, nth, List.nil_append, List.cons_append, md, Nat.reducePow, Nat.reduceAdd, Nat.reduceMul]
      refine WL_det rfl (det_extract rfl rfl) ?_
      dsimp only [put, List.set, ev, nth, List.nil_append, List.cons_append, md, Nat.reducePow, Nat.reduceAdd, Nat.reduceMul]
      refine WL_det rfl (det_extract rfl rfl) ?_
      dsimp only [put, List.set, ev, nth, List.nil_append, List.cons_append, md, Nat.reducePow, Nat.reduceAdd, Nat.reduceMul]
      refine WL_det rfl (det_assign) ?_
      dsimp only [put, List.set, ev, nth, List.nil_append, List.cons_append, md, Nat.reducePow, Nat.reduceAdd, Nat.reduceMul]
      refine WL_det rfl (det_assign) ?_
      dsimp only [put, List.set, ev, nth, List.nil_append, List.cons_append, md, Nat.reducePow, Nat.reduceAdd, Nat.reduceMul]
      refine WL_nil ?_
      refine WC_seq ?_
      refine WC_region ?_
      refine WL_det rfl (det_move) ?_
      dsimp only [put, List.set, ev, nth, List.nil_append, List.cons_append, md, Nat.reducePow, Nat.reduceAdd, Nat.reduceMul]
      refine WL_det rfl (det_not rfl) ?_
      dsimp only [put, List.set, ev, nth, List.nil_append, List.cons_append, md, Nat.reducePow, Nat.reduceAdd, Nat.reduceMul]
      refine WL_nil ?_
      refine WC_cond rfl (fun hc1 => ?_) (fun hc1 => ?_)
      · have hx : (F.getD k 0) ∉ (sdA F (k)).map Prod.fst := by simpa using hc1
        have hS := sdA_step (F := F) hc0 0
        have e1 : (sdA F (k + 1)).map Prod.fst = (sdA F (k)).map Prod.fst ++ [(F.getD k 0)] := by rw [hS, insA_fst hx]
        have e2 : (sdA F (k + 1)).map Prod.snd = (sdA F (k)).map Prod.snd ++ [-1] := by rw [hS, insA_snd hx]
        refine WC_seq ?_
        refine WC_region ?_
        refine WL_det rfl (det_move) ?_
        dsimp only [put, List.set, ev, nth, List.nil_append, List.cons_append, md, Nat.reducePow, Nat.reduceAdd, Nat.reduceMul]
        refine WL_det rfl (det_move) ?_
        dsimp only [put, List.set, ev, nth, List.nil_append, List.cons_append, md, Nat.reducePow, Nat.reduceAdd, Nat.reduceMul]
        refine WL_det rfl (det_move) ?_
        dsimp only [put, List.set, ev, nth, List.nil_append, List.cons_append, md, Nat.reducePow, Nat.reduceAdd, Nat.reduceMul]
        refine WL_det rfl (det_lenR Try.underlying43 rfl (fun w hw => RowO.rd hw 1 rfl h1) (iv_len ((sdA F (k)).map Prod.fst))) ?_
        dsimp only [put, List.set, ev, nth, List.nil_append, List.cons_append, md, Nat.reducePow, Nat.reduceAdd, Nat.reduceMul]
        refine WL_chg rfl (chg_mapPut intK 0 ((F.getD k 0)) Try.underlying100 Try.underlying3 rfl rfl (rfl) rfl (hx)) ?_
        rintro _ _ rfl
        dsimp only [put, List.set, ev, nth, List.nil_append, List.cons_append, md, Nat.reducePow, Nat.reduceAdd, Nat.reduceMul]
        rw [← e1]
        refine WL_nil ?_
        refine WC_region ?_
        refine WL_det rfl (det_move) ?_
        dsimp only [put, List.set, ev, nth, List.nil_append, List.cons_append, md, Nat.reducePow, Nat.reduceAdd, Nat.reduceMul]
        refine WL_det rfl (det_move) ?_
        dsimp only [put, List.set, ev, nth, List.nil_append, List.cons_append, md, Nat.reducePow, Nat.reduceAdd, Nat.reduceMul]
        refine WL_rel rfl (rel_lit1 Try.underlying43 Try.zeroValue3 Try.sizeOf3 rfl rfl) ?_
        rintro _ _ ⟨bl, rfl, rfl⟩
        dsimp only [put, List.set, ev, nth, List.nil_append, List.cons_append, md, Nat.reducePow, Nat.reduceAdd, Nat.reduceMul]
        refine WL_chg rfl (chg_appendO1 1 3 rfl (by decide) (h1) rfl rfl rfl rfl Try.underlying43 ei3 rfl (by rw [iv_len, List.length_map]; omega) (by decide)) ?_
        rintro v41 _ ⟨e41, hr41, rfl⟩
        dsimp only [put, List.eraseIdx, List.set, ev, nth, List.nil_append, List.cons_append, md, Nat.reducePow, Nat.reduceAdd, Nat.reduceMul]
        rw [iv_snoc] at hr41
        rw [← e1] at hr41
        refine WL_det rfl (det_move) ?_
        dsimp only [put, List.set, ev, nth, List.nil_append, List.cons_append, md, Nat.reducePow, Nat.reduceAdd, Nat.reduceMul]
        refine WL_rel rfl (rel_lit1 Try.underlying43 Try.zeroValue3 Try.sizeOf3 rfl rfl) ?_
        rintro _ _ ⟨bl, rfl, rfl⟩
        dsimp only [put, List.set, ev, nth, List.nil_append, List.cons_append, md, Nat.reducePow, Nat.reduceAdd, Nat.reduceMul]
        refine WL_chg rfl (chg_appendO1 2 3 rfl (by decide) (h2) rfl rfl rfl rfl Try.underlying43 ei3 rfl (by rw [iv_len, List.length_map]; omega) (by decide)) ?_
        rintro v44 _ ⟨e44, hr44, rfl⟩
        dsimp only [put, List.eraseIdx, List.set, ev, nth, List.nil_append, List.cons_append, md, Nat.reducePow, Nat.reduceAdd, Nat.reduceMul]
        rw [iv_snoc] at hr44
        rw [← e2] at hr44
        refine WL_det rfl (det_assign) ?_
        dsimp only [put, List.set, ev, nth, List.nil_append, List.cons_append, md, Nat.reducePow, Nat.reduceAdd, Nat.reduceMul]
        refine WL_det rfl (det_assign) ?_
        dsimp only [put, List.set, ev, nth, List.nil_append, List.cons_append, md, Nat.reducePow, Nat.reduceAdd, Nat.reduceMul]
        refine WL_nil ?_
        refine WC_region ?_
        refine WL_det rfl (det_addi (q := 1) rfl rfl (by omega)) ?_
        dsimp only [put, List.set, ev, nth, List.nil_append, List.cons_append, md, Nat.reducePow, Nat.reduceAdd, Nat.reduceMul]
        refine WL_det rfl (det_move) ?_
        dsimp only [put, List.set, ev, nth, List.nil_append, List.cons_append, md, Nat.reducePow, Nat.reduceAdd, Nat.reduceMul]
        refine WL_nil ?_
        refine ⟨(k + 1, v41, e41, v44, e44), ?_, ?_, ?_, ?_⟩
        · rfl
        · rfl
        · exact ⟨by dsimp only; omega, hr41, hr44⟩
        · dsimp only; omega
      · have hx : (F.getD k 0) ∈ (sdA F (k)).map Prod.fst := by simpa using hc1
        have e0 : sdA F (k + 1) = sdA F k := by rw [sdA_step hc0 0, insA_old hx]
        rw [← e0] at h1 h2 ⊢
        obtain ⟨v41, hq⟩ : ∃ v, v = v1 := ⟨_, rfl⟩
        subst hq
        obtain ⟨e41, hq⟩ : ∃ v, v = e1 := ⟨_, rfl⟩
        subst hq
        obtain ⟨v44, hq⟩ : ∃ v, v = v2 := ⟨_, rfl⟩
        subst hq
        obtain ⟨e44, hq⟩ : ∃ v, v = e2 := ⟨_, rfl⟩
        subst hq
        have hr41 := h1
        have hr44 := h2
        refine WC_skip ?_
        refine WC_region ?_
        refine WL_det rfl (det_addi (q := 1) rfl rfl (by omega)) ?_
        dsimp only [put, List.set, ev, nth, List.nil_append, List.cons_append, md, Nat.reducePow, Nat.reduceAdd, Nat.reduceMul]
        refine WL_det rfl (det_move) ?_
        dsimp only [put, List.set, ev, nth, List.nil_append, List.cons_append, md, Nat.reducePow, Nat.reduceAdd, Nat.reduceMul]
        refine WL_nil ?_
        refine ⟨(k + 1, v41, e41, v44, e44), ?_, ?_, ?_, ?_⟩
        · rfl
        · rfl
        · exact ⟨by dsimp only; omega, hr41, hr44⟩
        · dsimp only; omega
    · have hc0 := of_decide_eq_false hc0
      obtain rfl : k = F.length := by omega
      rw [sdA_all F es] at h1 h2 ⊢
      refine WC_exit ?_
      refine inB_same ?_
      refine WC_seq ?_
      refine WC_seq ?_
      refine WC_region ?_
      refine WL_det rfl (det_assign) ?_
      dsimp only [put, List.set, ev, nth, List.nil_append, List.cons_append, md, Nat.reducePow, Nat.reduceAdd, Nat.reduceMul]
      refine WL_nil ?_
      refine WC_block ?_
      refine WC_loopS (ι := Nat × Value × (Option Nat × Obj) × Value × (Option Nat × Obj)) [46, 47, 48, 49, 50, 51, 52, 53, 57, 58, 59, 60, 61, 62, 63, 64, 65, 56, 66, 67, 12, 13, 68, 69, 70, 71, 72, 73, 74, 75, 76, 77, 78, 79, 80, 81, 15, 82, 83, 84, 85, 86, 87, 88, 16, 90, 91, 92, 89, 93, 94, 17, 18, 95, 96, 97, 98, 99, 100, 101, 102, 103, 104, 105, 106, 107, 108, 109, 54, 55] (fun x => [(11, vn .i64 (x.1)), (4, x.2.1), (5, x.2.2.2.1)]) (fun x => [(0, (some b0, mapO intK ((stA es F (x.1)).map Prod.fst))), (1, x.2.2.1), (2, x.2.2.2.2)]) (fun x => x.1 ≤ (stA es F x.1).length ∧ RowO 3 (iv ((stA es F (x.1)).map Prod.fst)) x.2.1 x.2.2.1 ∧ RowO 3 (iv ((stA es F (x.1)).map Prod.snd)) x.2.2.2.1 x.2.2.2.2) (fun x => bndA es F + 1 - x.1) (0, v1, e1, v2, e2) ?_ ?_ ?_ ?_
      · rfl
      · rfl
      · exact ⟨Nat.zero_le _, h1, h2⟩
      · rintro ⟨j, v1, e1, v2, e2⟩ g' ⟨hj, h1, h2⟩
        dsimp only [setAll, setG, setM, List.set]
        dsimp only at hj h1 h2
        have hl := stA_len es F j
        refine WC_seq ?_
        refine WC_seq ?_
        by_cases hlt : j < (stA es F j).length
        · obtain ⟨⟨a, ai⟩, ha⟩ : ∃ x, (stA es F j)[j]? = some x := ⟨_, List.getElem?_eq_getElem hlt⟩
          have hka : ((stA es F (j)).map Prod.fst).getD j 0 = a := by simp [List.getD_eq_getElem?_getD, ha]
          have hle : j + 1 ≤ (stA es F (j + 1)).length := Nat.le_trans hlt (expA_pre es j _).length_le
          refine WC_region ?_
          refine WL_det rfl (det_move) ?_
          dsimp only [put, List.set, ev, nth, List.nil_append, List.cons_append, md, Nat.reducePow, Nat.reduceAdd, Nat.reduceMul]
          refine WL_det rfl (det_move) ?_
          dsimp only [put, List.set, ev, nth, List.nil_append, List.cons_append, md, Nat.reducePow, Nat.reduceAdd, Nat.reduceMul]
          refine WL_det rfl (det_lenR Try.underlying43 rfl (fun w hw => RowO.rd hw 1 rfl h1) (iv_len ((stA es F (j)).map Prod.fst))) ?_
          dsimp only [put, List.set, ev, nth, List.nil_append, List.cons_append, md, Nat.reducePow, Nat.reduceAdd, Nat.reduceMul]
          refine WL_det rfl (Det.bv true (det_lss rfl rfl) (decide_eq_true (by rw [List.length_map]; exact hlt))) ?_
          dsimp only [put, List.set, ev, nth, List.nil_append, List.cons_append, md, Nat.reducePow, Nat.reduceAdd, Nat.reduceMul]
          refine WL_det rfl (det_move) ?_
          dsimp only [put, List.set, ev, nth, List.nil_append, List.cons_append, md, Nat.reducePow, Nat.reduceAdd, Nat.reduceMul]
          refine WL_detG rfl (det_move) ?_
          dsimp only [put, List.set, ev, nth, List.nil_append, List.cons_append, md, Nat.reducePow, Nat.reduceAdd, Nat.reduceMul]
          refine WL_relG rfl (Rel_call rfl Try.call53 (fun w hw => isG_ok gb N O es.length hN hO w (hG0.far hw))) ?_
          rintro _ _ ⟨rfl, rfl⟩
          dsimp only [put, List.append_nil, List.set, ev, nth, List.nil_append, List.cons_append, md, Nat.reducePow, Nat.reduceAdd, Nat.reduceMul]
          refine WL_det rfl (det_pick_true rfl) ?_
          dsimp only [put, List.set, ev, nth, List.nil_append, List.cons_append, md, Nat.reducePow, Nat.reduceAdd, Nat.reduceMul]
          refine WL_nil ?_
          refine WC_cond_true rfl ?_
          refine WC_skip ?_
          refine WC_seq ?_
          refine WC_block ?_
          refine WC_seq ?_
          refine WC_draw [[], [0], [0, 1], [0, 1, 2], [], [], [4, 5], [4, 5, 6], [0, 1, 2, 3, 4, 5, 6, 7], [0, 1, 2, 3, 4, 5, 6, 7, 8], [0, 1, 2, 3, 4, 5, 6, 7, 8, 9], [0, 1, 2, 3, 4, 5, 6, 7, 8, 9], [0, 1, 2, 3, 4, 5, 6, 7, 8, 9, 10], [0, 1, 2, 3, 4, 5, 6, 7, 8, 9, 10, 11, 12]] [] 112 [] (List.nil_sublist _) mixed rfl (by decide) ?_
          refine RW.pure rfl rfl (fun _ => rfl) (fun V hV => det_move) (fun _ _ _ => rfl) ?_
          dsimp only [put, List.set, ev, nth, List.nil_append, List.cons_append, md, Nat.reducePow, Nat.reduceAdd, Nat.reduceMul]
          refine RW.pure rfl rfl (fun _ => rfl) (fun V hV => det_nilCheck rfl) (fun _ _ _ => rfl) ?_
          dsimp only [put, List.set, ev, nth, List.nil_append, List.cons_append, md, Nat.reducePow, Nat.reduceAdd, Nat.reduceMul]
          refine RW.pure rfl rfl (fun _ => rfl) (fun V hV => det_fieldAddr 0 Try.underlying103 rfl Try.sizeOf100 rfl) (fun _ _ _ => rfl) ?_
          dsimp only [put, List.set, ev, nth, List.nil_append, List.cons_append, md, Nat.reducePow, Nat.reduceAdd, Nat.reduceMul]
          refine RW.pure rfl rfl (fun _ => rfl) (fun V hV => det_loadFB Try.isAgg100 rfl hgb rfl) (fun _ _ _ => rfl) ?_
          dsimp only [put, List.set, ev, nth, List.nil_append, List.cons_append, md, Nat.reducePow, Nat.reduceAdd, Nat.reduceMul]
          refine RW.pure rfl rfl (fun _ => rfl) (fun V hV => det_move) (fun _ _ _ => rfl) ?_
          dsimp only [put, List.set, ev, nth, List.nil_append, List.cons_append, md, Nat.reducePow, Nat.reduceAdd, Nat.reduceMul]
          refine RW.pure rfl rfl (fun _ => rfl) (fun V hV => det_move) (fun _ _ _ => rfl) ?_
          dsimp only [put, List.set, ev, nth, List.nil_append, List.cons_append, md, Nat.reducePow, Nat.reduceAdd, Nat.reduceMul]
          refine RW.det [] rfl rfl rfl rfl (fun _ => rfl) (fun V hV => Det.rel (det_idxR Try.underlying43 Try.sizeOf3 rfl rfl (rfl) (by rw [iv_len]; rw [List.length_map]; exact hlt) (fun w hw => RowO.rd hw 1 rfl h1))) (fun _ _ _ => rfl) ?_
          dsimp only [put, List.set, ev, nth, List.nil_append, List.cons_append, md, Nat.reducePow, Nat.reduceAdd, Nat.reduceMul]
          refine RW.det [] rfl rfl rfl rfl (fun _ => rfl) (fun V hV => Det.rel (det_loadR Try.isAgg3 rfl (fun w hw => RowO.rd hw 1 rfl h1) (iv_at ((stA es F (j)).map Prod.fst) (by rw [List.length_map]; exact hlt)))) (fun _ _ _ => rfl) ?_
          dsimp only [put, List.set, ev, nth, List.nil_append, List.cons_append, md, Nat.reducePow, Nat.reduceAdd, Nat.reduceMul]
          refine RW.det [] rfl rfl rfl rfl (fun _ => rfl) (fun V hV => Det.rel (det_look intK (L := N) ((((stA es F (j)).map Prod.fst).getD j 0)) Try.underlying100 Try.underlying3 Try.zeroValue3 rfl rfl (fun w hw => hw.farBlk (hmb)))) (fun _ _ _ => rfl) ?_
          dsimp only [put, List.set, ev, nth, List.nil_append, List.cons_append, md, Nat.reducePow, Nat.reduceAdd, Nat.reduceMul]
          refine RW.pure rfl rfl (fun _ => rfl) (fun V hV => det_move) (fun _ _ _ => rfl) ?_
          dsimp only [put, List.set, ev, nth, List.nil_append, List.cons_append, md, Nat.reducePow, Nat.reduceAdd, Nat.reduceMul]
          refine RW.pure rfl rfl (fun _ => rfl) (fun V hV => det_extract rfl rfl) (fun _ _ _ => rfl) ?_
          dsimp only [put, List.set, ev, nth, List.nil_append, List.cons_append, md, Nat.reducePow, Nat.reduceAdd, Nat.reduceMul]
          refine RW.pure rfl rfl (fun _ => rfl) (fun V hV => det_extract rfl rfl) (fun _ _ _ => rfl) ?_
          dsimp only [put, List.set, ev, nth, List.nil_append, List.cons_append, md, Nat.reducePow, Nat.reduceAdd, Nat.reduceMul]
          refine RW.pure rfl rfl (fun _ => rfl) (fun V hV => det_assign) (fun _ _ _ => rfl) ?_
          dsimp only [put, List.set, ev, nth, List.nil_append, List.cons_append, md, Nat.reducePow, Nat.reduceAdd, Nat.reduceMul]
          refine RW.pure rfl rfl (fun _ => rfl) (fun V hV => det_assign) (fun _ _ _ => rfl) ?_
          dsimp only [put, List.set, ev, nth, List.nil_append, List.cons_append, md, Nat.reducePow, Nat.reduceAdd, Nat.reduceMul]
          refine RW.done (fun V => _ ++ flat [] V) rfl rfl (fun _ => rfl) (fun V hV => ?_)
          try dsimp only [put, blk, flat_nil, List.append_nil, List.append, List.eraseIdx, List.set, ev, nth, List.nil_append, List.cons_append, md, Nat.reducePow, Nat.reduceAdd, Nat.reduceMul]
          rw [hka]
          refine WC_seq ?_
          refine WC_seq ?_
          refine WC_region ?_
          refine WL_det rfl (det_move) ?_
          dsimp only [put, List.set, ev, nth, List.nil_append, List.cons_append, md, Nat.reducePow, Nat.reduceAdd, Nat.reduceMul]
          refine WL_det rfl (det_not rfl) ?_
          dsimp only [put, List.set, ev, nth, List.nil_append, List.cons_append, md, Nat.reducePow, Nat.reduceAdd, Nat.reduceMul]
          refine WL_nil ?_
          refine WC_cond rfl (fun hc3 => ?_) (fun hc3 => ?_)
          · have haN : a ∉ N := by simpa using hc3
            have e0 : stA es F (j + 1) = stA es F j := stA_none ha (by rw [← hGr.nodes]; exact haN)
            rw [← e0] at h1 h2 ⊢
            obtain ⟨v8, hq⟩ : ∃ v, v = v1 := ⟨_, rfl⟩
            subst hq
            obtain ⟨e8, hq⟩ : ∃ v, v = e1 := ⟨_, rfl⟩
            subst hq
            obtain ⟨v9, hq⟩ : ∃ v, v = v2 := ⟨_, rfl⟩
            subst hq
            obtain ⟨e9, hq⟩ : ∃ v, v = e2 := ⟨_, rfl⟩
            subst hq
            have hr8 := h1
            have hr9 := h2
            refine WC_exit ?_
            refine inB_same ?_
            refine WC_region ?_
            refine WL_det rfl (det_move) ?_
            dsimp only [put, List.set, ev, nth, List.nil_append, List.cons_append, md, Nat.reducePow, Nat.reduceAdd, Nat.reduceMul]
            refine WL_det rfl (det_addi (q := 1) rfl rfl (by omega)) ?_
            dsimp only [put, List.set, ev, nth, List.nil_append, List.cons_append, md, Nat.reducePow, Nat.reduceAdd, Nat.reduceMul]
            refine WL_det rfl (det_assign) ?_
            dsimp only [put, List.set, ev, nth, List.nil_append, List.cons_append, md, Nat.reducePow, Nat.reduceAdd, Nat.reduceMul]
            refine WL_nil ?_
            refine ⟨(j + 1, v8, e8, v9, e9), ?_, ?_, ?_, ?_⟩
            · rfl
            · rfl
            · exact ⟨hle, hr8, hr9⟩
            · dsimp only; omega
          · have haN : a ∈ N := by simpa using hc3
            have hOa := hGr.row (ixv N a) a (by rw [ixv, if_pos haN]; exact get_idx haN)
            have hlenO : (O (ixv N a)).length = (succ es a).length := by rw [hOa, List.length_map]
            have hOl := hO (ixv N a)
            refine WC_skip ?_
            refine WC_seq ?_
            refine WC_region ?_
            refine WL_det rfl (det_move) ?_
            dsimp only [put, List.set, ev, nth, List.nil_append, List.cons_append, md, Nat.reducePow, Nat.reduceAdd, Nat.reduceMul]
            refine WL_det rfl (det_nilCheck rfl) ?_
            dsimp only [put, List.set, ev, nth, List.nil_append, List.cons_append, md, Nat.reducePow, Nat.reduceAdd, Nat.reduceMul]
            refine WL_det rfl (det_fieldAddr 2 Try.underlying103 rfl Try.sizeOf101 rfl) ?_
            dsimp only [put, List.set, ev, nth, List.nil_append, List.cons_append, md, Nat.reducePow, Nat.reduceAdd, Nat.reduceMul]
            refine WL_det rfl (det_loadFB Try.isAgg101 rfl hgb rfl) ?_
            dsimp only [put, List.set, ev, nth, List.nil_append, List.cons_append, md, Nat.reducePow, Nat.reduceAdd, Nat.reduceMul]
            refine WL_det rfl (det_move) ?_
            dsimp only [put, List.set, ev, nth, List.nil_append, List.cons_append, md, Nat.reducePow, Nat.reduceAdd, Nat.reduceMul]
            refine WL_det rfl (det_idxR Try.underlying101 Try.sizeOf43 rfl rfl (rfl) (by rw [rvl_len]; exact ixv_lt haN) (fun w hw => RdL.far hw ho)) ?_
            dsimp only [put, List.set, ev, nth, List.nil_append, List.cons_append, md, Nat.reducePow, Nat.reduceAdd, Nat.reduceMul]
            refine WL_det rfl (det_loadR Try.isAgg43 rfl (fun w hw => RdL.far hw ho) (rvl_at rv N.length (ixv_lt haN))) ?_
            dsimp only [put, List.set, ev, nth, List.nil_append, List.cons_append, md, Nat.reducePow, Nat.reduceAdd, Nat.reduceMul]
            refine WL_det rfl (det_lenR Try.underlying43 rfl (fun w hw => RdL.far hw (hrow _ (ixv_lt haN))) (nv_len (O (ixv N a)))) ?_
            dsimp only [put, List.set, ev, nth, List.nil_append, List.cons_append, md, Nat.reducePow, Nat.reduceAdd, Nat.reduceMul]
            refine WL_det rfl (det_move) ?_
            dsimp only [put, List.set, ev, nth, List.nil_append, List.cons_append, md, Nat.reducePow, Nat.reduceAdd, Nat.reduceMul]
            refine WL_nil ?_
            refine WC_block ?_
            refine WC_loopS (ι := Nat × Value × (Option Nat × Obj) × Value × (Option Nat × Obj)) [79, 80, 81, 15, 82, 83, 84, 85, 86, 87, 88, 16, 90, 91, 92, 89, 93, 94, 17, 18, 95, 96, 97, 98, 99, 100, 101, 102, 103, 104, 105, 106, 107, 108, 109] (fun x => [(78, vn .i64 (x.1)), (4, x.2.1), (5, x.2.2.2.1)]) (fun x => [(0, (some b0, mapO intK ((exA es F j (x.1) a).map Prod.fst))), (1, x.2.2.1), (2, x.2.2.2.2)]) (fun x => x.1 ≤ (O (ixv N a)).length ∧ RowO 3 (iv ((exA es F j (x.1) a).map Prod.fst)) x.2.1 x.2.2.1 ∧ RowO 3 (iv ((exA es F j (x.1) a).map Prod.snd)) x.2.2.2.1 x.2.2.2.2) (fun x => (O (ixv N a)).length - x.1) (0, v1, e1, v2, e2) ?_ ?_ ?_ ?_
            · rfl
            · rfl
            · exact ⟨Nat.zero_le _, h1, h2⟩
            · rintro ⟨q, v3, e3, v4, e4⟩ g'' ⟨hq0, h3, h4⟩
              dsimp only [setAll, setG, setM, List.set]
              dsimp only at hq0 h3 h4
              have hl3 := exA_len (q := q) ha
              refine WC_seq ?_
              refine WC_region ?_
              refine WL_det rfl (det_lss rfl rfl) ?_
              dsimp only [put, List.set, ev, nth, List.nil_append, List.cons_append, md, Nat.reducePow, Nat.reduceAdd, Nat.reduceMul]
              refine WL_nil ?_
              refine WC_seq ?_
              refine WC_cond rfl (fun hc4 => ?_) (fun hc4 => ?_)
              · have hc4 := of_decide_eq_true hc4
                have hm := hGr.getO hOa hc4 0
                have hqs : q < (succ es a).length := by omega
                refine WC_skip ?_
                refine WC_seq ?_
                refine WC_block ?_
                refine WC_seq ?_
                refine WC_region ?_
                refine WL_det rfl (det_idxR Try.underlying43 Try.sizeOf3 rfl rfl (rfl) (by rw [nv_len]; omega) (fun w hw => RdL.far hw (hrow _ (ixv_lt haN)))) ?_
                dsimp only [put, List.set, ev, nth, List.nil_append, List.cons_append, md, Nat.reducePow, Nat.reduceAdd, Nat.reduceMul]
                refine WL_det rfl (det_loadR Try.isAgg3 rfl (fun w hw => RdL.far hw (hrow _ (ixv_lt haN))) (nv_at (O (ixv N a)) (by omega))) ?_
                dsimp only [put, List.set, ev, nth, List.nil_append, List.cons_append, md, Nat.reducePow, Nat.reduceAdd, Nat.reduceMul]
                refine WL_det rfl (det_assign) ?_
                dsimp only [put, List.set, ev, nth, List.nil_append, List.cons_append, md, Nat.reducePow, Nat.reduceAdd, Nat.reduceMul]
                refine WL_nil ?_
                refine WC_seq ?_
                refine WC_region ?_
                refine WL_det rfl (det_move) ?_
                dsimp only [put, List.set, ev, nth, List.nil_append, List.cons_append, md, Nat.reducePow, Nat.reduceAdd, Nat.reduceMul]
                refine WL_det rfl (det_nilCheck rfl) ?_
                dsimp only [put, List.set, ev, nth, List.nil_append, List.cons_append, md, Nat.reducePow, Nat.reduceAdd, Nat.reduceMul]
                refine WL_det rfl (det_fieldAddr 1 Try.underlying103 rfl Try.sizeOf43 rfl) ?_
                dsimp only [put, List.set, ev, nth, List.nil_append, List.cons_append, md, Nat.reducePow, Nat.reduceAdd, Nat.reduceMul]
                refine WL_det rfl (det_loadFB Try.isAgg43 rfl hgb rfl) ?_
                dsimp only [put, List.set, ev, nth, List.nil_append, List.cons_append, md, Nat.reducePow, Nat.reduceAdd, Nat.reduceMul]
                refine WL_det rfl (det_move) ?_
                dsimp only [put, List.set, ev, nth, List.nil_append, List.cons_append, md, Nat.reducePow, Nat.reduceAdd, Nat.reduceMul]
                refine WL_det rfl (det_idxR Try.underlying43 Try.sizeOf3 rfl rfl (rfl) (by rw [iv_len]; exact hm.1) (fun w hw => RdL.far hw hn)) ?_
                dsimp only [put, List.set, ev, nth, List.nil_append, List.cons_append, md, Nat.reducePow, Nat.reduceAdd, Nat.reduceMul]
                refine WL_det rfl (det_loadR Try.isAgg3 rfl (fun w hw => RdL.far hw hn) (iv_at N (hm.1))) ?_
                dsimp only [put, List.set, ev, nth, List.nil_append, List.cons_append, md, Nat.reducePow, Nat.reduceAdd, Nat.reduceMul]
                refine WL_det rfl (det_assign) ?_
                dsimp only [put, List.set, ev, nth, List.nil_append, List.cons_append, md, Nat.reducePow, Nat.reduceAdd, Nat.reduceMul]
                refine WL_nil ?_
                rw [hm.2]
                refine WC_seq ?_
                refine WC_region ?_
                refine WL_det rfl (det_move) ?_
                dsimp only [put, List.set, ev, nth, List.nil_append, List.cons_append, md, Nat.reducePow, Nat.reduceAdd, Nat.reduceMul]
                refine WL_det rfl (det_move) ?_
                dsimp only [put, List.set, ev, nth, List.nil_append, List.cons_append, md, Nat.reducePow, Nat.reduceAdd, Nat.reduceMul]
                refine WL_det rfl (det_look intK (L := ((exA es F j (q) a).map Prod.fst)) (((succ es a).getD q 0)) Try.underlying100 Try.underlying3 Try.zeroValue3 rfl rfl (fun w hw => hw.at 0 rfl)) ?_
                dsimp only [put, List.set, ev, nth, List.nil_append, List.cons_append, md, Nat.reducePow, Nat.reduceAdd, Nat.reduceMul]
                refine WL_det rfl (det_move) ?_
                dsimp only [put, List.set, ev, nth, List.nil_append, List.cons_append, md, Nat.reducePow, Nat.reduceAdd, Nat.reduceMul]
                refine WL_det rfl (det_extract rfl rfl) ?_
                dsimp only [put, List.set, ev, nth, List.nil_append, List.cons_append, md, Nat.reducePow, Nat.reduceAdd, Nat.reduceMul]
                refine WL_det rfl (det_extract rfl rfl) ?_
                dsimp only [put, List.set, ev, nth, List.nil_append, List.cons_append, md, Nat.reducePow, Nat.reduceAdd, Nat.reduceMul]
                refine WL_det rfl (det_assign) ?_
                dsimp only [put, List.set, ev, nth, List.nil_append, List.cons_append, md, Nat.reducePow, Nat.reduceAdd, Nat.reduceMul]
                refine WL_det rfl (det_assign) ?_
                dsimp only [put, List.set, ev, nth, List.nil_append, List.cons_append, md, Nat.reducePow, Nat.reduceAdd, Nat.reduceMul]
                refine WL_nil ?_
                refine WC_seq ?_
                refine WC_region ?_
                refine WL_det rfl (det_move) ?_
                dsimp only [put, List.set, ev, nth, List.nil_append, List.cons_append, md, Nat.reducePow, Nat.reduceAdd, Nat.reduceMul]
                refine WL_det rfl (det_not rfl) ?_
                dsimp only [put, List.set, ev, nth, List.nil_append, List.cons_append, md, Nat.reducePow, Nat.reduceAdd, Nat.reduceMul]
                refine WL_nil ?_
                refine WC_cond rfl (fun hc5 => ?_) (fun hc5 => ?_)
                · have hx : ((succ es a).getD q 0) ∉ (exA es F j (q) a).map Prod.fst := by simpa using hc5
                  have hS := exA_step (es := es) (F := F) (j := j) hqs 0
                  have e1 : (exA es F j (q + 1) a).map Prod.fst = (exA es F j (q) a).map Prod.fst ++ [((succ es a).getD q 0)] := by rw [hS, insA_fst hx]
                  have e2 : (exA es F j (q + 1) a).map Prod.snd = (exA es F j (q) a).map Prod.snd ++ [((j : Nat) : Int)] := by rw [hS, insA_snd hx]
                  refine WC_seq ?_
                  refine WC_region ?_
                  refine WL_det rfl (det_move) ?_
                  dsimp only [put, List.set, ev, nth, List.nil_append, List.cons_append, md, Nat.reducePow, Nat.reduceAdd, Nat.reduceMul]
                  refine WL_det rfl (det_move) ?_
                  dsimp only [put, List.set, ev, nth, List.nil_append, List.cons_append, md, Nat.reducePow, Nat.reduceAdd, Nat.reduceMul]
                  refine WL_det rfl (det_move) ?_
                  dsimp only [put, List.set, ev, nth, List.nil_append, List.cons_append, md, Nat.reducePow, Nat.reduceAdd, Nat.reduceMul]
                  refine WL_det rfl (det_lenR Try.underlying43 rfl (fun w hw => RowO.rd hw 1 rfl h3) (iv_len ((exA es F j (q) a).map Prod.fst))) ?_
                  dsimp only [put, List.set, ev, nth, List.nil_append, List.cons_append, md, Nat.reducePow, Nat.reduceAdd, Nat.reduceMul]
                  refine WL_chg rfl (chg_mapPut intK 0 (((succ es a).getD q 0)) Try.underlying100 Try.underlying3 rfl rfl (rfl) rfl (hx)) ?_
                  rintro _ _ rfl
                  dsimp only [put, List.set, ev, nth, List.nil_append, List.cons_append, md, Nat.reducePow, Nat.reduceAdd, Nat.reduceMul]
                  rw [← e1]
                  refine WL_nil ?_
                  refine WC_region ?_
                  refine WL_det rfl (det_move) ?_
                  dsimp only [put, List.set, ev, nth, List.nil_append, List.cons_append, md, Nat.reducePow, Nat.reduceAdd, Nat.reduceMul]
                  refine WL_det rfl (det_move) ?_
                  dsimp only [put, List.set, ev, nth, List.nil_append, List.cons_append, md, Nat.reducePow, Nat.reduceAdd, Nat.reduceMul]
                  refine WL_rel rfl (rel_lit1 Try.underlying43 Try.zeroValue3 Try.sizeOf3 rfl rfl) ?_
                  rintro _ _ ⟨bl, rfl, rfl⟩
                  dsimp only [put, List.set, ev, nth, List.nil_append, List.cons_append, md, Nat.reducePow, Nat.reduceAdd, Nat.reduceMul]
                  refine WL_chg rfl (chg_appendO1 1 3 rfl (by decide) (h3) rfl rfl rfl rfl Try.underlying43 ei3 rfl (by rw [iv_len, List.length_map]; omega) (by decide)) ?_
                  rintro v104 _ ⟨e104, hr104, rfl⟩
                  dsimp only [put, List.eraseIdx, List.set, ev, nth, List.nil_append, List.cons_append, md, Nat.reducePow, Nat.reduceAdd, Nat.reduceMul]
                  rw [iv_snoc] at hr104
                  rw [← e1] at hr104
                  refine WL_det rfl (det_move) ?_
                  dsimp only [put, List.set, ev, nth, List.nil_append, List.cons_append, md, Nat.reducePow, Nat.reduceAdd, Nat.reduceMul]
                  refine WL_det rfl (det_move) ?_
                  dsimp only [put, List.set, ev, nth, List.nil_append, List.cons_append, md, Nat.reducePow, Nat.reduceAdd, Nat.reduceMul]
                  refine WL_rel rfl (rel_lit1 Try.underlying43 Try.zeroValue3 Try.sizeOf3 rfl rfl) ?_
                  rintro _ _ ⟨bl, rfl, rfl⟩
                  dsimp only [put, List.set, ev, nth, List.nil_append, List.cons_append, md, Nat.reducePow, Nat.reduceAdd, Nat.reduceMul]
                  refine WL_chg rfl (chg_appendO1 2 3 rfl (by decide) (h4) rfl rfl rfl rfl Try.underlying43 ei3 rfl (by rw [iv_len, List.length_map]; omega) (by decide)) ?_
                  rintro v108 _ ⟨e108, hr108, rfl⟩
                  dsimp only [put, List.eraseIdx, List.set, ev, nth, List.nil_append, List.cons_append, md, Nat.reducePow, Nat.reduceAdd, Nat.reduceMul]
                  rw [show vn .i64 j = Value.int .i64 ((j : Nat) : Int) from rfl] at hr108
                  rw [iv_snoc] at hr108
                  rw [← e2] at hr108
                  refine WL_det rfl (det_assign) ?_
                  dsimp only [put, List.set, ev, nth, List.nil_append, List.cons_append, md, Nat.reducePow, Nat.reduceAdd, Nat.reduceMul]
                  refine WL_det rfl (det_assign) ?_
                  dsimp only [put, List.set, ev, nth, List.nil_append, List.cons_append, md, Nat.reducePow, Nat.reduceAdd, Nat.reduceMul]
                  refine WL_nil ?_
                  refine WC_region ?_
                  refine WL_det rfl (det_addi (q := 1) rfl rfl (by omega)) ?_
                  dsimp only [put, List.set, ev, nth, List.nil_append, List.cons_append, md, Nat.reducePow, Nat.reduceAdd, Nat.reduceMul]
                  refine WL_det rfl (det_move) ?_
                  dsimp only [put, List.set, ev, nth, List.nil_append, List.cons_append, md, Nat.reducePow, Nat.reduceAdd, Nat.reduceMul]
                  refine WL_nil ?_
                  refine ⟨(q + 1, v104, e104, v108, e108), ?_, ?_, ?_, ?_⟩
                  · rfl
                  · rfl
                  · exact ⟨by dsimp only; omega, hr104, hr108⟩
                  · dsimp only; omega
                · have hx : ((succ es a).getD q 0) ∈ (exA es F j (q) a).map Prod.fst := by simpa using hc5
                  have e0 : exA es F j (q + 1) a = exA es F j q a := by rw [exA_step hqs 0, insA_old hx]
                  rw [← e0] at h3 h4 ⊢
                  obtain ⟨v104, hq⟩ : ∃ v, v = v3 := ⟨_, rfl⟩
                  subst hq
                  obtain ⟨e104, hq⟩ : ∃ v, v = e3 := ⟨_, rfl⟩
                  subst hq
                  obtain ⟨v108, hq⟩ : ∃ v, v = v4 := ⟨_, rfl⟩
                  subst hq
                  obtain ⟨e108, hq⟩ : ∃ v, v = e4 := ⟨_, rfl⟩
                  subst hq
                  have hr104 := h3
                  have hr108 := h4
                  refine WC_skip ?_
                  refine WC_region ?_
                  refine WL_det rfl (det_addi (q := 1) rfl rfl (by omega)) ?_
                  dsimp only [put, List.set, ev, nth, List.nil_append, List.cons_append, md, Nat.reducePow, Nat.reduceAdd, Nat.reduceMul]
                  refine WL_det rfl (det_move) ?_
                  dsimp only [put, List.set, ev, nth, List.nil_append, List.cons_append, md, Nat.reducePow, Nat.reduceAdd, Nat.reduceMul]
                  refine WL_nil ?_
                  refine ⟨(q + 1, v104, e104, v108, e108), ?_, ?_, ?_, ?_⟩
                  · rfl
                  · rfl
                  · exact ⟨by dsimp only; omega, hr104, hr108⟩
                  · dsimp only; omega
              · have hc4 := of_decide_eq_false hc4
                obtain rfl : q = (O (ixv N a)).length := by omega
                rw [hlenO, exA_all ha] at h3 h4 ⊢
                obtain ⟨v8, hq⟩ : ∃ v, v = v3 := ⟨_, rfl⟩
                subst hq
                obtain ⟨e8, hq⟩ : ∃ v, v = e3 := ⟨_, rfl⟩
                subst hq
                obtain ⟨v9, hq⟩ : ∃ v, v = v4 := ⟨_, rfl⟩
                subst hq
                obtain ⟨e9, hq⟩ : ∃ v, v = e4 := ⟨_, rfl⟩
                subst hq
                have hr8 := h3
                have hr9 := h4
                refine WC_exit ?_
                refine inB_same ?_
                refine WC_region ?_
                refine WL_det rfl (det_move) ?_
                dsimp only [put, List.set, ev, nth, List.nil_append, List.cons_append, md, Nat.reducePow, Nat.reduceAdd, Nat.reduceMul]
                refine WL_det rfl (det_addi (q := 1) rfl rfl (by omega)) ?_
                dsimp only [put, List.set, ev, nth, List.nil_append, List.cons_append, md, Nat.reducePow, Nat.reduceAdd, Nat.reduceMul]
                refine WL_det rfl (det_assign) ?_
                dsimp only [put, List.set, ev, nth, List.nil_append, List.cons_append, md, Nat.reducePow, Nat.reduceAdd, Nat.reduceMul]
                refine WL_nil ?_
                refine ⟨(j + 1, v8, e8, v9, e9), ?_, ?_, ?_, ?_⟩
                · rfl
                · rfl
                · exact ⟨hle, hr8, hr9⟩
                · dsimp only; omega
        · have hS : srch es F = stA es F j := srch_eq (by omega) (by omega)
          refine WC_region ?_
          refine WL_det rfl (det_move) ?_
          dsimp only [put, List.set, ev, nth, List.nil_append, List.cons_append, md, Nat.reducePow, Nat.reduceAdd, Nat.reduceMul]
          refine WL_det rfl (det_move) ?_
          dsimp only [put, List.set, ev, nth, List.nil_append, List.cons_append, md, Nat.reducePow, Nat.reduceAdd, Nat.reduceMul]
          refine WL_det rfl (det_lenR Try.underlying43 rfl (fun w hw => RowO.rd hw 1 rfl h1) (iv_len ((stA es F (j)).map Prod.fst))) ?_
          dsimp only [put, List.set, ev, nth, List.nil_append, List.cons_append, md, Nat.reducePow, Nat.reduceAdd, Nat.reduceMul]
          refine WL_det rfl (Det.bv false (det_lss rfl rfl) (decide_eq_false (by rw [List.length_map]; exact hlt))) ?_
          dsimp only [put, List.set, ev, nth, List.nil_append, List.cons_append, md, Nat.reducePow, Nat.reduceAdd, Nat.reduceMul]
          refine WL_det rfl (det_move) ?_
          dsimp only [put, List.set, ev, nth, List.nil_append, List.cons_append, md, Nat.reducePow, Nat.reduceAdd, Nat.reduceMul]
          refine WL_skipG ?_ ?_
          · rfl
          dsimp only [put, List.set, ev, nth, List.nil_append, List.cons_append, md, Nat.reducePow, Nat.reduceAdd, Nat.reduceMul]
          refine WL_skipG ?_ ?_
          · rfl
          dsimp only [put, List.set, ev, nth, List.nil_append, List.cons_append, md, Nat.reducePow, Nat.reduceAdd, Nat.reduceMul]
          refine WL_det rfl (det_pick_false rfl) ?_
          dsimp only [put, List.set, ev, nth, List.nil_append, List.cons_append, md, Nat.reducePow, Nat.reduceAdd, Nat.reduceMul]
          refine WL_nil ?_
          refine WC_cond_false rfl ?_
          refine WC_exit ?_
          refine inB_same ?_
          refine WC_seq ?_
          refine WC_region ?_
          refine WL_det rfl (det_move) ?_
          dsimp only [put, List.set, ev, nth, List.nil_append, List.cons_append, md, Nat.reducePow, Nat.reduceAdd, Nat.reduceMul]
          refine WL_det rfl (det_move) ?_
          dsimp only [put, List.set, ev, nth, List.nil_append, List.cons_append, md, Nat.reducePow, Nat.reduceAdd, Nat.reduceMul]
          refine WL_det rfl (det_assign) ?_
          dsimp only [put, List.set, ev, nth, List.nil_append, List.cons_append, md, Nat.reducePow, Nat.reduceAdd, Nat.reduceMul]
          refine WL_det rfl (det_assign) ?_
          dsimp only [put, List.set, ev, nth, List.nil_append, List.cons_append, md, Nat.reducePow, Nat.reduceAdd, Nat.reduceMul]
          refine WL_nil ?_
          rw [← hS] at h1 h2
          refine WC_ret ?_
          refine fin_tmp2 Try.results50 rfl rfl ([e1, e2]) (.cons _ (List.Sublist.refl _)) ?_
          exact ⟨v1, v2, e1, e2, rfl, h1, h2, rfl⟩

end Go.Proofs.Ytocmlaloafmfkaa

set_option linter.unusedVariables false
namespace Go.Proofs.Ytocmlaloafmfkaa
open Go.MW
set_option maxRecDepth 100000 in
set_option maxHeartbeats 4000000 in
theorem searchS_spec (gb : Nat) (es : List (Str × Str)) (F : List Str) (fv : Value) (hes : es.length ≤ 200) (hF : F.length ≤ 400) (w : World) (hG : GW strK 107 gb es w) (hf : RdL w (sv F) fv) :
    Calls Try.prog 61 [.pointer (some ⟨gb, 0, none⟩), fv].toArray w (Post w (fun v m => ∃ v1 v2 e1 e2, v = .tuple #[v1, v2] ∧ RowO 9 (sv ((srch es F).map Prod.fst)) v1 e1 ∧ RowO 3 (iv ((srch es F).map Prod.snd)) v2 e2 ∧ m = [e1, e2])) := by
  obtain ⟨N, O, hGr, hG⟩ := hG
  have hG0 := hG
  obtain ⟨mb, nv0, ov, rv, hgb, hmb, hn, ho, hrow⟩ := hG
  have hn : RdL w (sv N) nv0 := hn
  have hnl := nodes_len es
  have hN : N.length ≤ 1000 := by rw [hGr.nodes]; omega
  have hO : ∀ i, (O i).length ≤ 1000 := fun i => by have := hGr.olen i; omega
  have hb : bndA es F ≤ 1000 := by unfold bndA; omega
  refine calls_of_WC Try.func61 rfl ?_
  simp only [Try.ntmps61, List.length_cons, List.length_nil, Nat.reduceAdd, Nat.reduceSub, List.replicate, List.cons_append, List.nil_append]
  refine WC_seq ?_
  refine WC_region ?_
  refine WL_det rfl (det_assign) ?_
  dsimp only [put, List.set, ev, nth, List.nil_append, List.cons_append, md, Nat.reducePow, Nat.reduceAdd, Nat.reduceMul]
  refine WL_det rfl (det_assign) ?_
  dsimp only [put, List.set, ev, nth, List.nil_append, List.cons_append, md, Nat.reducePow, Nat.reduceAdd, Nat.reduceMul]
  refine WL_nil ?_
  refine WC_seq ?_
  refine WC_region ?_
  refine WL_rel rfl (rel_makeMap) ?_
  rintro _ _ ⟨b0, rfl, rfl⟩
  dsimp only [put, List.set, ev, nth, List.nil_append, List.cons_append, md, Nat.reducePow, Nat.reduceAdd, Nat.reduceMul]
  refine WL_det rfl (det_assign) ?_
  dsimp only [put, List.set, ev, nth, List.nil_append, List.cons_append, md, Nat.reducePow, Nat.reduceAdd, Nat.reduceMul]
  refine WL_nil ?_
  refine WC_seq ?_
  refine WC_seq ?_
  refine WC_region ?_
  refine WL_det rfl (det_move) ?_
  dsimp only [put, List.set, ev, nth, List.nil_append, List.cons_append, md, Nat.reducePow, Nat.reduceAdd, Nat.reduceMul]
  refine WL_det rfl (det_lenR Try.underlying22 rfl (fun w hw => RdL.far hw hf) (sv_len F)) ?_
  dsimp only [put, List.set, ev, nth, List.nil_append, List.cons_append, md, Nat.reducePow, Nat.reduceAdd, Nat.reduceMul]
  refine WL_det rfl (det_move) ?_
  dsimp only [put, List.set, ev, nth, List.nil_append, List.cons_append, md, Nat.reducePow, Nat.reduceAdd, Nat.reduceMul]
  refine WL_nil ?_
  refine WC_block ?_
  refine WC.addNone (.cells #[] 9 (0, 0)) ?_
  dsimp only [List.cons_append, List.nil_append]
  refine WC.addNone (.cells #[] 3 (0, 0)) ?_
  dsimp only [List.cons_append, List.nil_append]
  refine WC_loopS (ι := Nat × Value × (Option Nat × Obj) × Value × (Option Nat × Obj)) [23, 24, 25, 8, 27, 28, 29, 26, 30, 31, 9, 10, 32, 33, 34, 35, 36, 37, 38, 39, 40, 41, 42, 43, 44, 45] (fun x => [(22, vn .i64 (x.1)), (4, x.2.1), (5, x.2.2.2.1)]) (fun x => [(0, (some b0, mapO strK ((sdA F (x.1)).map Prod.fst))), (1, x.2.2.1), (2, x.2.2.2.2)]) (fun x => x.1 ≤ F.length ∧ RowO 9 (sv ((sdA F (x.1)).map Prod.fst)) x.2.1 x.2.2.1 ∧ RowO 3 (iv ((sdA F (x.1)).map Prod.snd)) x.2.2.2.1 x.2.2.2.2) (fun x => F.length - x.1) (0, .slice none 0 0, (none, .cells #[] 9 (0, 0)), .slice none 0 0, (none, .cells #[] 3 (0, 0))) ?_ ?_ ?_ ?_
  · rfl
  · rfl
  · exact ⟨Nat.zero_le _, RowO.nil _ _, RowO.nil _ _⟩
  · rintro ⟨k, v1, e1, v2, e2⟩ g' ⟨hk, h1, h2⟩
    dsimp only [setAll, setG, setM, List.set]
    dsimp only at hk h1 h2
    have hl := sdA_len F k
    refine WC_seq ?_
    refine WC_region ?_
    refine WL_det rfl (det_lss rfl rfl) ?_
    dsimp only [put, List.set, ev, nth, List.nil_append, List.cons_append, md, Nat.reducePow, Nat.reduceAdd, Nat.reduceMul]
    refine WL_nil ?_
    refine WC_seq ?_
    refine WC_cond rfl (fun hc0 => ?_) (fun hc0 => ?_)
    · have hc0 := of_decide_eq_true hc0
      refine WC_skip ?_
      refine WC_seq ?_
      refine WC_block ?_
      refine WC_seq ?_
      refine WC_region ?_
      refine WL_det rfl (det_idxR Try.underlying22 Try.sizeOf9 rfl rfl (rfl) (by rw [sv_len]; omega) (fun w hw => RdL.far hw hf)) ?_
      dsimp only [put, List.set, ev, nth, List.nil_append, List.cons_append, md, Nat.reducePow, Nat.reduceAdd, Nat.reduceMul]
      refine WL_det rfl (det_loadR Try.isAgg9 rfl (fun w hw => RdL.far hw hf) (sv_at F (by omega))) ?_
      dsimp only [put, List.set, ev, nth, List.nil_append, List.cons_append, md, Nat.reducePow, Nat.reduceAdd, Nat.reduceMul]
      refine WL_det rfl (det_assign) ?_
      dsimp only [put, List.set, ev, nth, List.nil_append, List.cons_append, md, Nat.reducePow, Nat.reduceAdd, Nat.reduceMul]
      refine WL_nil ?_
      refine WC_seq ?_
      refine WC_region ?_
      refine WL_det rfl (det_move) ?_
      dsimp only [put, List.set, ev, nth, List.nil_append, List.cons_append, md, Nat.reducePow, Nat.reduceAdd, Nat.reduceMul]
      refine WL_det rfl (det_move) ?_
      dsimp only [put, List.set, ev, nth, List.nil_append, List.cons_append, md, Nat.reducePow, Nat.reduceAdd, Nat.reduceMul]
      refine WL_det rfl (det_look strK (L := ((sdA F (k)).map Prod.fst)) ((F.getD k str0)) Try.underlying105 Try.underlying9 Try.zeroValue3 rfl rfl (fun w hw => hw.at 0 rfl)) ?_
      dsimp only [put, List.set, ev, nth, List.nil_append, List.cons_append, md, Nat.reducePow, Nat.reduceAdd, Nat.reduceMul]
      refine WL_det rfl (det_move) ?_
      dsimp only [put, List.set, ev, nth, List.nil_append, List.cons_append, md, Nat.reducePow, Nat.reduceAdd, Nat.reduceMul]
      refine WL_det rfl (det_extract rfl rfl) ?_
      dsimp only [put, List.set, ev, nth, List.nil_append, List.cons_append, md, Nat.reducePow, Nat.reduceAdd, Nat.reduceMul]
      refine WL_det rfl (det_extract rfl rfl) ?_
      dsimp only [put, List.set, ev, nth, List.nil_append, List.cons_append, md, Nat.reducePow, Nat.reduceAdd, Nat.reduceMul]
      refine WL_det rfl (det_assign) ?_
      dsimp only [put, List.set, ev, nth, List.nil_append, List.cons_append, md, Nat.reducePow, Nat.reduceAdd, Nat.reduceMul]
      refine WL_det rfl (det_assign) ?_
      dsimp only [put, List.set, ev, nth, List.nil_append, List.cons_append, md, Nat.reducePow, Nat.reduceAdd, Nat.reduceMul]
      refine WL_nil ?_
      refine WC_seq ?_
      refine WC_region ?_
      refine WL_det rfl (det_move) ?_
      dsimp only [put, List.set, ev, nth, List.nil_append, List.cons_append, md, Nat.reducePow, Nat.reduceAdd, Nat.reduceMul]
      refine WL_det rfl (det_not rfl) ?_
      dsimp only [put, List.set, ev, nth, List.nil_append, List.cons_append, md, Nat.reducePow, Nat.reduceAdd, Nat.reduceMul]
      refine WL_nil ?_
      refine WC_cond rfl (fun hc1 => ?_) (fun hc1 => ?_)
      · have hx : (F.getD k str0) ∉ (sdA F (k)).map Prod.fst := by simpa using hc1
        have hS := sdA_step (F := F) hc0 str0
        have e1 : (sdA F (k + 1)).map Prod.fst = (sdA F (k)).map Prod.fst ++ [(F.getD k str0)] := by rw [hS, insA_fst hx]
        have e2 : (sdA F (k + 1)).map Prod.snd = (sdA F (k)).map Prod.snd ++ [-1] := by rw [hS, insA_snd hx]
        refine WC_seq ?_
        refine WC_region ?_
        refine WL_det rfl (det_move) ?_
        dsimp only [put, List.set, ev, nth, List.nil_append, List.cons_append, md, Nat.reducePow, Nat.reduceAdd, Nat.reduceMul]
        refine WL_det rfl (det_move) ?_
        dsimp only [put, List.set, ev, nth, List.nil_append, List.cons_append, md, Nat.reducePow, Nat.reduceAdd, Nat.reduceMul]
        refine WL_det rfl (det_move) ?_
        dsimp only [put, List.set, ev, nth, List.nil_append, List.cons_append, md, Nat.reducePow, Nat.reduceAdd, Nat.reduceMul]
        refine WL_det rfl (det_lenR Try.underlying22 rfl (fun w hw => RowO.rd hw 1 rfl h1) (sv_len ((sdA F (k)).map Prod.fst))) ?_
        dsimp only [put, List.set, ev, nth, List.nil_append, List.cons_append, md, Nat.reducePow, Nat.reduceAdd, Nat.reduceMul]
        refine WL_chg rfl (chg_mapPut strK 0 ((F.getD k str0)) Try.underlying105 Try.underlying9 rfl rfl (rfl) rfl (hx)) ?_
        rintro _ _ rfl
        dsimp only [put, List.set, ev, nth, List.nil_append, List.cons_append, md, Nat.reducePow, Nat.reduceAdd, Nat.reduceMul]
        rw [← e1]
        refine WL_nil ?_
        refine WC_region ?_
        refine WL_det rfl (det_move) ?_
        dsimp only [put, List.set, ev, nth, List.nil_append, List.cons_append, md, Nat.reducePow, Nat.reduceAdd, Nat.reduceMul]
        refine WL_det rfl (det_move) ?_
        dsimp only [put, List.set, ev, nth, List.nil_append, List.cons_append, md, Nat.reducePow, Nat.reduceAdd, Nat.reduceMul]
        refine WL_rel rfl (rel_lit1 Try.underlying22 Try.zeroValue9 Try.sizeOf9 rfl rfl) ?_
        rintro _ _ ⟨bl, rfl, rfl⟩
        dsimp only [put, List.set, ev, nth, List.nil_append, List.cons_append, md, Nat.reducePow, Nat.reduceAdd, Nat.reduceMul]
        refine WL_chg rfl (chg_appendO1 1 3 rfl (by decide) (h1) rfl rfl rfl rfl Try.underlying22 ei9 rfl (by rw [sv_len, List.length_map]; omega) (by decide)) ?_
        rintro v41 _ ⟨e41, hr41, rfl⟩
        dsimp only [put, List.eraseIdx, List.set, ev, nth, List.nil_append, List.cons_append, md, Nat.reducePow, Nat.reduceAdd, Nat.reduceMul]
        rw [sv_snoc] at hr41
        rw [← e1] at hr41
        refine WL_det rfl (det_move) ?_
        dsimp only [put, List.set, ev, nth, List.nil_append, List.cons_append, md, Nat.reducePow, Nat.reduceAdd, Nat.reduceMul]
        refine WL_rel rfl (rel_lit1 Try.underlying43 Try.zeroValue3 Try.sizeOf3 rfl rfl) ?_
        rintro _ _ ⟨bl, rfl, rfl⟩
        dsimp only [put, List.set, ev, nth, List.nil_append, List.cons_append, md, Nat.reducePow, Nat.reduceAdd, Nat.reduceMul]
        refine WL_chg rfl (chg_appendO1 2 3 rfl (by decide) (h2) rfl rfl rfl rfl Try.underlying43 ei3 rfl (by rw [iv_len, List.length_map]; omega) (by decide)) ?_
        rintro v44 _ ⟨e44, hr44, rfl⟩
        dsimp only [put, List.eraseIdx, List.set, ev, nth, List.nil_append, List.cons_append, md, Nat.reducePow, Nat.reduceAdd, Nat.reduceMul]
        rw [iv_snoc] at hr44
        rw [← e2] at hr44
        refine WL_det rfl (det_assign) ?_
        dsimp only [put, List.set, ev, nth, List.nil_append, List.cons_append, md, Nat.reducePow, Nat.reduceAdd, Nat.reduceMul]
        refine WL_det rfl (det_assign) ?_
        dsimp only [put, List.set, ev, nth, List.nil_append, List.cons_append, md, Nat.reducePow, Nat.reduceAdd, Nat.reduceMul]
        refine WL_nil ?_
        refine WC_region ?_
        refine WL_det rfl (det_addi (q := 1) rfl rfl (by omega)) ?_
        dsimp only [put, List.set, ev, nth, List.nil_append, List.cons_append, md, Nat.reducePow, Nat.reduceAdd, Nat.reduceMul]
        refine WL_det rfl (det_move) ?_
        dsimp only [put, List.set, ev, nth, List.nil_append, List.cons_append, md, Nat.reducePow, Nat.reduceAdd, Nat.reduceMul]
        refine WL_nil ?_
        refine ⟨(k + 1, v41, e41, v44, e44), ?_, ?_, ?_, ?_⟩
        · rfl
        · rfl
        · exact ⟨by dsimp only; omega, hr41, hr44⟩
        · dsimp only; omega
      · have hx : (F.getD k str0) ∈ (sdA F (k)).map Prod.fst := by simpa using hc1
        have e0 : sdA F (k + 1) = sdA F k := by rw [sdA_step hc0 str0, insA_old hx]
        rw [← e0] at h1 h2 ⊢
        obtain ⟨v41, hq⟩ : ∃ v, v = v1 := ⟨_, rfl⟩
        subst hq
        obtain ⟨e41, hq⟩ : ∃ v, v = e1 := ⟨_, rfl⟩
        subst hq
        obtain ⟨v44, hq⟩ : ∃ v, v = v2 := ⟨_, rfl⟩
        subst hq
        obtain ⟨e44, hq⟩ : ∃ v, v = e2 := ⟨_, rfl⟩
        subst hq
        have hr41 := h1
        have hr44 := h2
        refine WC_skip ?_
        refine WC_region ?_
        refine WL_det rfl (det_addi (q := 1) rfl rfl (by omega)) ?_
        dsimp only [put, List.set, ev, nth, List.nil_append, List.cons_append, md, Nat.reducePow, Nat.reduceAdd, Nat.reduceMul]
        refine WL_det rfl (det_move) ?_
        dsimp only [put, List.set, ev, nth, List.nil_append, List.cons_append, md, Nat.reducePow, Nat.reduceAdd, Nat.reduceMul]
        refine WL_nil ?_
        refine ⟨(k + 1, v41, e41, v44, e44), ?_, ?_, ?_, ?_⟩
        · rfl
        · rfl
        · exact ⟨by dsimp only; omega, hr41, hr44⟩
        · dsimp only; omega
    · have hc0 := of_decide_eq_false hc0
      obtain rfl : k = F.length := by omega
      rw [sdA_all F es] at h1 h2 ⊢
      refine WC_exit ?_
      refine inB_same ?_
      refine WC_seq ?_
      refine WC_seq ?_
      refine WC_region ?_
      refine WL_det rfl (det_assign) ?_
      dsimp only [put, List.set, ev, nth, List.nil_append, List.cons_append, md, Nat.reducePow, Nat.reduceAdd, Nat.reduceMul]
      refine WL_nil ?_
      refine WC_block ?_
      refine WC_loopS (ι := Nat × Value × (Option Nat × Obj) × Value × (Option Nat × Obj)) [46, 47, 48, 49, 50, 51, 52, 53, 57, 58, 59, 60, 61, 62, 63, 64, 65, 56, 66, 67, 12, 13, 68, 69, 70, 71, 72, 73, 74, 75, 76, 77, 78, 79, 80, 81, 15, 82, 83, 84, 85, 86, 87, 88, 16, 90, 91, 92, 89, 93, 94, 17, 18, 95, 96, 97, 98, 99, 100, 101, 102, 103, 104, 105, 106, 107, 108, 109, 54, 55] (fun x => [(11, vn .i64 (x.1)), (4, x.2.1), (5, x.2.2.2.1)]) (fun x => [(0, (some b0, mapO strK ((stA es F (x.1)).map Prod.fst))), (1, x.2.2.1), (2, x.2.2.2.2)]) (fun x => x.1 ≤ (stA es F x.1).length ∧ RowO 9 (sv ((stA es F (x.1)).map Prod.fst)) x.2.1 x.2.2.1 ∧ RowO 3 (iv ((stA es F (x.1)).map Prod.snd)) x.2.2.2.1 x.2.2.2.2) (fun x => bndA es F + 1 - x.1) (0, v1, e1, v2, e2) ?_ ?_ ?_ ?_
      · rfl
      · rfl
      · exact ⟨Nat.zero_le _, h1, h2⟩
      · rintro ⟨j, v1, e1, v2, e2⟩ g' ⟨hj, h1, h2⟩
        dsimp only [setAll, setG, setM, List.set]
        dsimp only at hj h1 h2
        have hl := stA_len es F j
        refine WC_seq ?_
        refine WC_seq ?_
        by_cases hlt : j < (stA es F j).length
        · obtain ⟨⟨a, ai⟩, ha⟩ : ∃ x, (stA es F j)[j]? = some x := ⟨_, List.getElem?_eq_getElem hlt⟩
          have hka : ((stA es F (j)).map Prod.fst).getD j str0 = a := by simp [List.getD_eq_getElem?_getD, ha]
          have hle : j + 1 ≤ (stA es F (j + 1)).length := Nat.le_trans hlt (expA_pre es j _).length_le
          refine WC_region ?_
          refine WL_det rfl (det_move) ?_
          dsimp only [put, List.set, ev, nth, List.nil_append, List.cons_append, md, Nat.reducePow, Nat.reduceAdd, Nat.reduceMul]
          refine WL_det rfl (det_move) ?_
          dsimp only [put, List.set, ev, nth, List.nil_append, List.cons_append, md, Nat.reducePow, Nat.reduceAdd, Nat.reduceMul]
          refine WL_det rfl (det_lenR Try.underlying22 rfl (fun w hw => RowO.rd hw 1 rfl h1) (sv_len ((stA es F (j)).map Prod.fst))) ?_
          dsimp only [put, List.set, ev, nth, List.nil_append, List.cons_append, md, Nat.reducePow, Nat.reduceAdd, Nat.reduceMul]
          refine WL_det rfl (Det.bv true (det_lss rfl rfl) (decide_eq_true (by rw [List.length_map]; exact hlt))) ?_
          dsimp only [put, List.set, ev, nth, List.nil_append, List.cons_append, md, Nat.reducePow, Nat.reduceAdd, Nat.reduceMul]
          refine WL_det rfl (det_move) ?_
          dsimp only [put, List.set, ev, nth, List.nil_append, List.cons_append, md, Nat.reducePow, Nat.reduceAdd, Nat.reduceMul]
          refine WL_detG rfl (det_move) ?_
          dsimp only [put, List.set, ev, nth, List.nil_append, List.cons_append, md, Nat.reducePow, Nat.reduceAdd, Nat.reduceMul]
          refine WL_relG rfl (Rel_call rfl Try.call57 (fun w hw => isT_ok gb N O es.length hN hO w (hG0.far hw))) ?_
          rintro _ _ ⟨rfl, rfl⟩
          dsimp only [put, List.append_nil, List.set, ev, nth, List.nil_append, List.cons_append, md, Nat.reducePow, Nat.reduceAdd, Nat.reduceMul]
          refine WL_det rfl (det_pick_true rfl) ?_
          dsimp only [put, List.set, ev, nth, List.nil_append, List.cons_append, md, Nat.reducePow, Nat.reduceAdd, Nat.reduceMul]
          refine WL_nil ?_
          refine WC_cond_true rfl ?_
          refine WC_skip ?_
          refine WC_seq ?_
          refine WC_block ?_
          refine WC_seq ?_
          refine WC_draw [[], [0], [0, 1], [0, 1, 2], [], [], [4, 5], [4, 5, 6], [0, 1, 2, 3, 4, 5, 6, 7], [0, 1, 2, 3, 4, 5, 6, 7, 8], [0, 1, 2, 3, 4, 5, 6, 7, 8, 9], [0, 1, 2, 3, 4, 5, 6, 7, 8, 9], [0, 1, 2, 3, 4, 5, 6, 7, 8, 9, 10], [0, 1, 2, 3, 4, 5, 6, 7, 8, 9, 10, 11, 12]] [] 112 [] (List.nil_sublist _) mixed rfl (by decide) ?_
          refine RW.pure rfl rfl (fun _ => rfl) (fun V hV => det_move) (fun _ _ _ => rfl) ?_
          dsimp only [put, List.set, ev, nth, List.nil_append, List.cons_append, md, Nat.reducePow, Nat.reduceAdd, Nat.reduceMul]
          refine RW.pure rfl rfl (fun _ => rfl) (fun V hV => det_nilCheck rfl) (fun _ _ _ => rfl) ?_
          dsimp only [put, List.set, ev, nth, List.nil_append, List.cons_append, md, Nat.reducePow, Nat.reduceAdd, Nat.reduceMul]
          refine RW.pure rfl rfl (fun _ => rfl) (fun V hV => det_fieldAddr 0 Try.underlying107 rfl Try.sizeOf105 rfl) (fun _ _ _ => rfl) ?_
          dsimp only [put, List.set, ev, nth, List.nil_append, List.cons_append, md, Nat.reducePow, Nat.reduceAdd, Nat.reduceMul]
          refine RW.pure rfl rfl (fun _ => rfl) (fun V hV => det_loadFB Try.isAgg105 rfl hgb rfl) (fun _ _ _ => rfl) ?_
          dsimp only [put, List.set, ev, nth, List.nil_append, List.cons_append, md, Nat.reducePow, Nat.reduceAdd, Nat.reduceMul]
          refine RW.pure rfl rfl (fun _ => rfl) (fun V hV => det_move) (fun _ _ _ => rfl) ?_
          dsimp only [put, List.set, ev, nth, List.nil_append, List.cons_append, md, Nat.reducePow, Nat.reduceAdd, Nat.reduceMul]
          refine RW.pure rfl rfl (fun _ => rfl) (fun V hV => det_move) (fun _ _ _ => rfl) ?_
          dsimp only [put, List.set, ev, nth, List.nil_append, List.cons_append, md, Nat.reducePow, Nat.reduceAdd, Nat.reduceMul]
          refine RW.det [] rfl rfl rfl rfl (fun _ => rfl) (fun V hV => Det.rel (det_idxR Try.underlying22 Try.sizeOf9 rfl rfl (rfl) (by rw [sv_len]; rw [List.length_map]; exact hlt) (fun w hw => RowO.rd hw 1 rfl h1))) (fun _ _ _ => rfl) ?_
          dsimp only [put, List.set, ev, nth, List.nil_append, List.cons_append, md, Nat.reducePow, Nat.reduceAdd, Nat.reduceMul]
          refine RW.det [] rfl rfl rfl rfl (fun _ => rfl) (fun V hV => Det.rel (det_loadR Try.isAgg9 rfl (fun w hw => RowO.rd hw 1 rfl h1) (sv_at ((stA es F (j)).map Prod.fst) (by rw [List.length_map]; exact hlt)))) (fun _ _ _ => rfl) ?_
          dsimp only [put, List.set, ev, nth, List.nil_append, List.cons_append, md, Nat.reducePow, Nat.reduceAdd, Nat.reduceMul]
          refine RW.det [] rfl rfl rfl rfl (fun _ => rfl) (fun V hV => Det.rel (det_look strK (L := N) ((((stA es F (j)).map Prod.fst).getD j str0)) Try.underlying105 Try.underlying9 Try.zeroValue3 rfl rfl (fun w hw => hw.farBlk (hmb)))) (fun _ _ _ => rfl) ?_
          dsimp only [put, List.set, ev, nth, List.nil_append, List.cons_append, md, Nat.reducePow, Nat.reduceAdd, Nat.reduceMul]
          refine RW.pure rfl rfl (fun _ => rfl) (fun V hV => det_move) (fun _ _ _ => rfl) ?_
          dsimp only [put, List.set, ev, nth, List.nil_append, List.cons_append, md, Nat.reducePow, Nat.reduceAdd, Nat.reduceMul]
          refine RW.pure rfl rfl (fun _ => rfl) (fun V hV => det_extract rfl rfl) (fun _ _ _ => rfl) ?_
          dsimp only [put, List.set, ev, nth, List.nil_append, List.cons_append, md, Nat.reducePow, Nat.reduceAdd, Nat.reduceMul]
          refine RW.pure rfl rfl (fun _ => rfl) (fun V hV => det_extract rfl rfl) (fun _ _ _ => rfl) ?_
          dsimp only [put, List.set, ev, nth, List.nil_append, List.cons_append, md, Nat.reducePow, Nat.reduceAdd, Nat.reduceMul]
          refine RW.pure rfl rfl (fun _ => rfl) (fun V hV => det_assign) (fun _ _ _ => rfl) ?_
          dsimp only [put, List.set, ev, nth, List.nil_append, List.cons_append, md, Nat.reducePow, Nat.reduceAdd, Nat.reduceMul]
          refine RW.pure rfl rfl (fun _ => rfl) (fun V hV => det_assign) (fun _ _ _ => rfl) ?_
          dsimp only [put, List.set, ev, nth, List.nil_append, List.cons_append, md, Nat.reducePow, Nat.reduceAdd, Nat.reduceMul]
          refine RW.done (fun V => _ ++ flat [] V) rfl rfl (fun _ => rfl) (fun V hV => ?_)
          try dsimp only [put, blk, flat_nil, List.append_nil, List.append, List.eraseIdx, List.set, ev, nth, List.nil_append, List.cons_append, md, Nat.reducePow, Nat.reduceAdd, Nat.reduceMul]
          rw [hka]
          refine WC_seq ?_
          refine WC_seq ?_
          refine WC_region ?_
          refine WL_det rfl (det_move) ?_
          dsimp only [put, List.set, ev, nth, List.nil_append, List.cons_append, md, Nat.reducePow, Nat.reduceAdd, Nat.reduceMul]
          refine WL_det rfl (det_not rfl) ?_
          dsimp only [put, List.set, ev, nth, List.nil_append, List.cons_append, md, Nat.reducePow, Nat.reduceAdd, Nat.reduceMul]
          refine WL_nil ?_
          refine WC_cond rfl (fun hc3 => ?_) (fun hc3 => ?_)
          · have haN : a ∉ N := by simpa using hc3
            have e0 : stA es F (j + 1) = stA es F j := stA_none ha (by rw [← hGr.nodes]; exact haN)
            rw [← e0] at h1 h2 ⊢
            obtain ⟨v8, hq⟩ : ∃ v, v = v1 := ⟨_, rfl⟩
            subst hq
            obtain ⟨e8, hq⟩ : ∃ v, v = e1 := ⟨_, rfl⟩
            subst hq
            obtain ⟨v9, hq⟩ : ∃ v, v = v2 := ⟨_, rfl⟩
            subst hq
            obtain ⟨e9, hq⟩ : ∃ v, v = e2 := ⟨_, rfl⟩
            subst hq
            have hr8 := h1
            have hr9 := h2
            refine WC_exit ?_
            refine inB_same ?_
            refine WC_region ?_
            refine WL_det rfl (det_move) ?_
            dsimp only [put, List.set, ev, nth, List.nil_append, List.cons_append, md, Nat.reducePow, Nat.reduceAdd, Nat.reduceMul]
            refine WL_det rfl (det_addi (q := 1) rfl rfl (by omega)) ?_
            dsimp only [put, List.set, ev, nth, List.nil_append, List.cons_append, md, Nat.reducePow, Nat.reduceAdd, Nat.reduceMul]
            refine WL_det rfl (det_assign) ?_
            dsimp only [put, List.set, ev, nth, List.nil_append, List.cons_append, md, Nat.reducePow, Nat.reduceAdd, Nat.reduceMul]
            refine WL_nil ?_
            refine ⟨(j + 1, v8, e8, v9, e9), ?_, ?_, ?_, ?_⟩
            · rfl
            · rfl
            · exact ⟨hle, hr8, hr9⟩
            · dsimp only; omega
          · have haN : a ∈ N := by simpa using hc3
            have hOa := hGr.row (ixv N a) a (by rw [ixv, if_pos haN]; exact get_idx haN)
            have hlenO : (O (ixv N a)).length = (succ es a).length := by rw [hOa, List.length_map]
            have hOl := hO (ixv N a)
            refine WC_skip ?_
            refine WC_seq ?_
            refine WC_region ?_
            refine WL_det rfl (det_move) ?_
            dsimp only [put, List.set, ev, nth, List.nil_append, List.cons_append, md, Nat.reducePow, Nat.reduceAdd, Nat.reduceMul]
            refine WL_det rfl (det_nilCheck rfl) ?_
            dsimp only [put, List.set, ev, nth, List.nil_append, List.cons_append, md, Nat.reducePow, Nat.reduceAdd, Nat.reduceMul]
            refine WL_det rfl (det_fieldAddr 2 Try.underlying107 rfl Try.sizeOf101 rfl) ?_
            dsimp only [put, List.set, ev, nth, List.nil_append, List.cons_append, md, Nat.reducePow, Nat.reduceAdd, Nat.reduceMul]
            refine WL_det rfl (det_loadFB Try.isAgg101 rfl hgb rfl) ?_
            dsimp only [put, List.set, ev, nth, List.nil_append, List.cons_append, md, Nat.reducePow, Nat.reduceAdd, Nat.reduceMul]
            refine WL_det rfl (det_move) ?_
            dsimp only [put, List.set, ev, nth, List.nil_append, List.cons_append, md, Nat.reducePow, Nat.reduceAdd, Nat.reduceMul]
            refine WL_det rfl (det_idxR Try.underlying101 Try.sizeOf43 rfl rfl (rfl) (by rw [rvl_len]; exact ixv_lt haN) (fun w hw => RdL.far hw ho)) ?_
            dsimp only [put, List.set, ev, nth, List.nil_append, List.cons_append, md, Nat.reducePow, Nat.reduceAdd, Nat.reduceMul]
            refine WL_det rfl (det_loadR Try.isAgg43 rfl (fun w hw => RdL.far hw ho) (rvl_at rv N.length (ixv_lt haN))) ?_
            dsimp only [put, List.set, ev, nth, List.nil_append, List.cons_append, md, Nat.reducePow, Nat.reduceAdd, Nat.reduceMul]
            refine WL_det rfl (det_lenR Try.underlying43 rfl (fun w hw => RdL.far hw (hrow _ (ixv_lt haN))) (nv_len (O (ixv N a)))) ?_
            dsimp only [put, List.set, ev, nth, List.nil_append, List.cons_append, md, Nat.reducePow, Nat.reduceAdd, Nat.reduceMul]
            refine WL_det rfl (det_move) ?_
            dsimp only [put, List.set, ev, nth, List.nil_append, List.cons_append, md, Nat.reducePow, Nat.reduceAdd, Nat.reduceMul]
            refine WL_nil ?_
            refine WC_block ?_
            refine WC_loopS (ι := Nat × Value × (Option Nat × Obj) × Value × (Option Nat × Obj)) [79, 80, 81, 15, 82, 83, 84, 85, 86, 87, 88, 16, 90, 91, 92, 89, 93, 94, 17, 18, 95, 96, 97, 98, 99, 100, 101, 102, 103, 104, 105, 106, 107, 108, 109] (fun x => [(78, vn .i64 (x.1)), (4, x.2.1), (5, x.2.2.2.1)]) (fun x => [(0, (some b0, mapO strK ((exA es F j (x.1) a).map Prod.fst))), (1, x.2.2.1), (2, x.2.2.2.2)]) (fun x => x.1 ≤ (O (ixv N a)).length ∧ RowO 9 (sv ((exA es F j (x.1) a).map Prod.fst)) x.2.1 x.2.2.1 ∧ RowO 3 (iv ((exA es F j (x.1) a).map Prod.snd)) x.2.2.2.1 x.2.2.2.2) (fun x => (O (ixv N a)).length - x.1) (0, v1, e1, v2, e2) ?_ ?_ ?_ ?_
            · rfl
            · rfl
            · exact ⟨Nat.zero_le _, h1, h2⟩
            · rintro ⟨q, v3, e3, v4, e4⟩ g'' ⟨hq0, h3, h4⟩
              dsimp only [setAll, setG, setM, List.set]
              dsimp only at hq0 h3 h4
              have hl3 := exA_len (q := q) ha
              refine WC_seq ?_
              refine WC_region ?_
              refine WL_det rfl (det_lss rfl rfl) ?_
              dsimp only [put, List.set, ev, nth, List.nil_append, List.cons_append, md, Nat.reducePow, Nat.reduceAdd, Nat.reduceMul]
              refine WL_nil ?_
              refine WC_seq ?_
              refine WC_cond rfl (fun hc4 => ?_) (fun hc4 => ?_)
              · have hc4 := of_decide_eq_true hc4
                have hm := hGr.getO hOa hc4 str0
                have hqs : q < (succ es a).length := by omega
                refine WC_skip ?_
                refine WC_seq ?_
                refine WC_block ?_
                refine WC_seq ?_
                refine WC_region ?_
                refine WL_det rfl (det_idxR Try.underlying43 Try.sizeOf3 rfl rfl (rfl) (by rw [nv_len]; omega) (fun w hw => RdL.far hw (hrow _ (ixv_lt haN)))) ?_
                dsimp only [put, List.set, ev, nth, List.nil_append, List.cons_append, md, Nat.reducePow, Nat.reduceAdd, Nat.reduceMul]
                refine WL_det rfl (det_loadR Try.isAgg3 rfl (fun w hw => RdL.far hw (hrow _ (ixv_lt haN))) (nv_at (O (ixv N a)) (by omega))) ?_
                dsimp only [put, List.set, ev, nth, List.nil_append, List.cons_append, md, Nat.reducePow, Nat.reduceAdd, Nat.reduceMul]
                refine WL_det rfl (det_assign) ?_
                dsimp only [put, List.set, ev, nth, List.nil_append, List.cons_append, md, Nat.reducePow, Nat.reduceAdd, Nat.reduceMul]
                refine WL_nil ?_
                refine WC_seq ?_
                refine WC_region ?_
                refine WL_det rfl (det_move) ?_
                dsimp only [put, List.set, ev, nth, List.nil_append, List.cons_append, md, Nat.reducePow, Nat.reduceAdd, Nat.reduceMul]
                refine WL_det rfl (det_nilCheck rfl) ?_
                dsimp only [put, List.set, ev, nth, List.nil_append, List.cons_append, md, Nat.reducePow, Nat.reduceAdd, Nat.reduceMul]
                refine WL_det rfl (det_fieldAddr 1 Try.underlying107 rfl Try.sizeOf22 rfl) ?_
                dsimp only [put, List.set, ev, nth, List.nil_append, List.cons_append, md, Nat.reducePow, Nat.reduceAdd, Nat.reduceMul]
                refine WL_det rfl (det_loadFB Try.isAgg22 rfl hgb rfl) ?_
                dsimp only [put, List.set, ev, nth, List.nil_append, List.cons_append, md, Nat.reducePow, Nat.reduceAdd, Nat.reduceMul]
                refine WL_det rfl (det_move) ?_
                dsimp only [put, List.set, ev, nth, List.nil_append, List.cons_append, md, Nat.reducePow, Nat.reduceAdd, Nat.reduceMul]
                refine WL_det rfl (det_idxR Try.underlying22 Try.sizeOf9 rfl rfl (rfl) (by rw [sv_len]; exact hm.1) (fun w hw => RdL.far hw hn)) ?_
                dsimp only [put, List.set, ev, nth, List.nil_append, List.cons_append, md, Nat.reducePow, Nat.reduceAdd, Nat.reduceMul]
                refine WL_det rfl (det_loadR Try.isAgg9 rfl (fun w hw => RdL.far hw hn) (sv_at N (hm.1))) ?_
                dsimp only [put, List.set, ev, nth, List.nil_append, List.cons_append, md, Nat.reducePow, Nat.reduceAdd, Nat.reduceMul]
                refine WL_det rfl (det_assign) ?_
                dsimp only [put, List.set, ev, nth, List.nil_append, List.cons_append, md, Nat.reducePow, Nat.reduceAdd, Nat.reduceMul]
                refine WL_nil ?_
                rw [hm.2]
                refine WC_seq ?_
                refine WC_region ?_
                refine WL_det rfl (det_move) ?_
                dsimp only [put, List.set, ev, nth, List.nil_append, List.cons_append, md, Nat.reducePow, Nat.reduceAdd, Nat.reduceMul]
                refine WL_det rfl (det_move) ?_
                dsimp only [put, List.set, ev, nth, List.nil_append, List.cons_append, md, Nat.reducePow, Nat.reduceAdd, Nat.reduceMul]
                refine WL_det rfl (det_look strK (L := ((exA es F j (q) a).map Prod.fst)) (((succ es a).getD q str0)) Try.underlying105 Try.underlying9 Try.zeroValue3 rfl rfl (fun w hw => hw.at 0 rfl)) ?_
                dsimp only [put, List.set, ev, nth, List.nil_append, List.cons_append, md, Nat.reducePow, Nat.reduceAdd, Nat.reduceMul]
                refine WL_det rfl (det_move) ?_
                dsimp only [put, List.set, ev, nth, List.nil_append, List.cons_append, md, Nat.reducePow, Nat.reduceAdd, Nat.reduceMul]
                refine WL_det rfl (det_extract rfl rfl) ?_
                dsimp only [put, List.set, ev, nth, List.nil_append, List.cons_append, md, Nat.reducePow, Nat.reduceAdd, Nat.reduceMul]
                refine WL_det rfl (det_extract rfl rfl) ?_
                dsimp only [put, List.set, ev, nth, List.nil_append, List.cons_append, md, Nat.reducePow, Nat.reduceAdd, Nat.reduceMul]
                refine WL_det rfl (det_assign) ?_
                dsimp only [put, List.set, ev, nth, List.nil_append, List.cons_append, md, Nat.reducePow, Nat.reduceAdd, Nat.reduceMul]
                refine WL_det rfl (det_assign) ?_
                dsimp only [put, List.set, ev, nth, List.nil_append, List.cons_append, md, Nat.reducePow, Nat.reduceAdd, Nat.reduceMul]
                refine WL_nil ?_
                refine WC_seq ?_
                refine WC_region ?_
                refine WL_det rfl (det_move) ?_
                dsimp only [put, List.set, ev, nth, List.nil_append, List.cons_append, md, Nat.reducePow, Nat.reduceAdd, Nat.reduceMul]
                refine WL_det rfl (det_not rfl) ?_
                dsimp only [put, List.set, ev, nth, List.nil_append, List.cons_append, md, Nat.reducePow, Nat.reduceAdd, Nat.reduceMul]
                refine WL_nil ?_
                refine WC_cond rfl (fun hc5 => ?_) (fun hc5 => ?_)
                · have hx : ((succ es a).getD q str0) ∉ (exA es F j (q) a).map Prod.fst := by simpa using hc5
                  have hS := exA_step (es := es) (F := F) (j := j) hqs str0
                  have e1 : (exA es F j (q + 1) a).map Prod.fst = (exA es F j (q) a).map Prod.fst ++ [((succ es a).getD q str0)] := by rw [hS, insA_fst hx]
                  have e2 : (exA es F j (q + 1) a).map Prod.snd = (exA es F j (q) a).map Prod.snd ++ [((j : Nat) : Int)] := by rw [hS, insA_snd hx]
                  refine WC_seq ?_
                  refine WC_region ?_
                  refine WL_det rfl (det_move) ?_
                  dsimp only [put, List.set, ev, nth, List.nil_append, List.cons_append, md, Nat.reducePow, Nat.reduceAdd, Nat.reduceMul]
                  refine WL_det rfl (det_move) ?_
                  dsimp only [put, List.set, ev, nth, List.nil_append, List.cons_append, md, Nat.reducePow, Nat.reduceAdd, Nat.reduceMul]
                  refine WL_det rfl (det_move) ?_
                  dsimp only [put, List.set, ev, nth, List.nil_append, List.cons_append, md, Nat.reducePow, Nat.reduceAdd, Nat.reduceMul]
                  refine WL_det rfl (det_lenR Try.underlying22 rfl (fun w hw => RowO.rd hw 1 rfl h3) (sv_len ((exA es F j (q) a).map Prod.fst))) ?_
                  dsimp only [put, List.set, ev, nth, List.nil_append, List.cons_append, md, Nat.reducePow, Nat.reduceAdd, Nat.reduceMul]
                  refine WL_chg rfl (chg_mapPut strK 0 (((succ es a).getD q str0)) Try.underlying105 Try.underlying9 rfl rfl (rfl) rfl (hx)) ?_
                  rintro _ _ rfl
                  dsimp only [put, List.set, ev, nth, List.nil_append, List.cons_append, md, Nat.reducePow, Nat.reduceAdd, Nat.reduceMul]
                  rw [← e1]
                  refine WL_nil ?_
                  refine WC_region ?_
                  refine WL_det rfl (det_move) ?_
                  dsimp only [put, List.set, ev, nth, List.nil_append, List.cons_append, md, Nat.reducePow, Nat.reduceAdd, Nat.reduceMul]
                  refine WL_det rfl (det_move) ?_
                  dsimp only [put, List.set, ev, nth, List.nil_append, List.cons_append, md, Nat.reducePow, Nat.reduceAdd, Nat.reduceMul]
                  refine WL_rel rfl (rel_lit1 Try.underlying22 Try.zeroValue9 Try.sizeOf9 rfl rfl) ?_
                  rintro _ _ ⟨bl, rfl, rfl⟩
                  dsimp only [put, List.set, ev, nth, List.nil_append, List.cons_append, md, Nat.reducePow, Nat.reduceAdd, Nat.reduceMul]
                  refine WL_chg rfl (chg_appendO1 1 3 rfl (by decide) (h3) rfl rfl rfl rfl Try.underlying22 ei9 rfl (by rw [sv_len, List.length_map]; omega) (by decide)) ?_
                  rintro v104 _ ⟨e104, hr104, rfl⟩
                  dsimp only [put, List.eraseIdx, List.set, ev, nth, List.nil_append, List.cons_append, md, Nat.reducePow, Nat.reduceAdd, Nat.reduceMul]
                  rw [sv_snoc] at hr104
                  rw [← e1] at hr104
                  refine WL_det rfl (det_move) ?_
                  dsimp only [put, List.set, ev, nth, List.nil_append, List.cons_append, md, Nat.reducePow, Nat.reduceAdd, Nat.reduceMul]
                  refine WL_det rfl (det_move) ?_
                  dsimp only [put, List.set, ev, nth, List.nil_append, List.cons_append, md, Nat.reducePow, Nat.reduceAdd, Nat.reduceMul]
                  refine WL_rel rfl (rel_lit1 Try.underlying43 Try.zeroValue3 Try.sizeOf3 rfl rfl) ?_
                  rintro _ _ ⟨bl, rfl, rfl⟩
                  dsimp only [put, List.set, ev, nth, List.nil_append, List.cons_append, md, Nat.reducePow, Nat.reduceAdd, Nat.reduceMul]
                  refine WL_chg rfl (chg_appendO1 2 3 rfl (by decide) (h4) rfl rfl rfl rfl Try.underlying43 ei3 rfl (by rw [iv_len, List.length_map]; omega) (by decide)) ?_
                  rintro v108 _ ⟨e108, hr108, rfl⟩
                  dsimp only [put, List.eraseIdx, List.set, ev, nth, List.nil_append, List.cons_append, md, Nat.reducePow, Nat.reduceAdd, Nat.reduceMul]
                  rw [show vn .i64 j = Value.int .i64 ((j : Nat) : Int) from rfl] at hr108
                  rw [iv_snoc] at hr108
                  rw [← e2] at hr108
                  refine WL_det rfl (det_assign) ?_
                  dsimp only [put, List.set, ev, nth, List.nil_append, List.cons_append, md, Nat.reducePow, Nat.reduceAdd, Nat.reduceMul]
                  refine WL_det rfl (det_assign) ?_
                  dsimp only [put, List.set, ev, nth, List.nil_append, List.cons_append, md, Nat.reducePow, Nat.reduceAdd, Nat.reduceMul]
                  refine WL_nil ?_
                  refine WC_region ?_
                  refine WL_det rfl (det_addi (q := 1) rfl rfl (by omega)) ?_
                  dsimp only [put, List.set, ev, nth, List.nil_append, List.cons_append, md, Nat.reducePow, Nat.reduceAdd, Nat.reduceMul]
                  refine WL_det rfl (det_move) ?_
                  dsimp only [put, List.set, ev, nth, List.nil_append, List.cons_append, md, Nat.reducePow, Nat.reduceAdd, Nat.reduceMul]
                  refine WL_nil ?_
                  refine ⟨(q + 1, v104, e104, v108, e108), ?_, ?_, ?_, ?_⟩
                  · rfl
                  · rfl
                  · exact ⟨by dsimp only; omega, hr104, hr108⟩
                  · dsimp only; omega
                · have hx : ((succ es a).getD q str0) ∈ (exA es F j (q) a).map Prod.fst := by simpa using hc5
                  have e0 : exA es F j (q + 1) a = exA es F j q a := by rw [exA_step hqs str0, insA_old hx]
                  rw [← e0] at h3 h4 ⊢
                  obtain ⟨v104, hq⟩ : ∃ v, v = v3 := ⟨_, rfl⟩
                  subst hq
                  obtain ⟨e104, hq⟩ : ∃ v, v = e3 := ⟨_, rfl⟩
                  subst hq
                  obtain ⟨v108, hq⟩ : ∃ v, v = v4 := ⟨_, rfl⟩
                  subst hq
                  obtain ⟨e108, hq⟩ : ∃ v, v = e4 := ⟨_, rfl⟩
                  subst hq
                  have hr104 := h3
                  have hr108 := h4
                  refine WC_skip ?_
                  refine WC_region ?_
                  refine WL_det rfl (det_addi (q := 1) rfl rfl (by omega)) ?_
                  dsimp only [put, List.set, ev, nth, List.nil_append, List.cons_append, md, Nat.reducePow, Nat.reduceAdd, Nat.reduceMul]
                  refine WL_det rfl (det_move) ?_
                  dsimp only [put, List.set, ev, nth, List.nil_append, List.cons_append, md, Nat.reducePow, Nat.reduceAdd, Nat.reduceMul]
                  refine WL_nil ?_
                  refine ⟨(q + 1, v104, e104, v108, e108), ?_, ?_, ?_, ?_⟩
                  · rfl
                  · rfl
                  · exact ⟨by dsimp only; omega, hr104, hr108⟩
                  · dsimp only; omega
              · have hc4 := of_decide_eq_false hc4
                obtain rfl : q = (O (ixv N a)).length := by omega
                rw [hlenO, exA_all ha] at h3 h4 ⊢
                obtain ⟨v8, hq⟩ : ∃ v, v = v3 := ⟨_, rfl⟩
                subst hq
                obtain ⟨e8, hq⟩ : ∃ v, v = e3 := ⟨_, rfl⟩
                subst hq
                obtain ⟨v9, hq⟩ : ∃ v, v = v4 := ⟨_, rfl⟩
                subst hq
                obtain ⟨e9, hq⟩ : ∃ v, v = e4 := ⟨_, rfl⟩
                subst hq
                have hr8 := h3
                have hr9 := h4
                refine WC_exit ?_
                refine inB_same ?_
                refine WC_region ?_
                refine WL_det rfl (det_move) ?_
                dsimp only [put, List.set, ev, nth, List.nil_append, List.cons_append, md, Nat.reducePow, Nat.reduceAdd, Nat.reduceMul]
                refine WL_det rfl (det_addi (q := 1) rfl rfl (by omega)) ?_
                dsimp only [put, List.set, ev, nth, List.nil_append, List.cons_append, md, Nat.reducePow, Nat.reduceAdd, Nat.reduceMul]
                refine WL_det rfl (det_assign) ?_
                dsimp only [put, List.set, ev, nth, List.nil_append, List.cons_append, md, Nat.reducePow, Nat.reduceAdd, Nat.reduceMul]
                refine WL_nil ?_
                refine ⟨(j + 1, v8, e8, v9, e9), ?_, ?_, ?_, ?_⟩
                · rfl
                · rfl
                · exact ⟨hle, hr8, hr9⟩
                · dsimp only; omega
        · have hS : srch es F = stA es F j := srch_eq (by omega) (by omega)
          refine WC_region ?_
          refine WL_det rfl (det_move) ?_
          dsimp only [put, List.set, ev, nth, List.nil_append, List.cons_append, md, Nat.reducePow, Nat.reduceAdd, Nat.reduceMul]
          refine WL_det rfl (det_move) ?_
          dsimp only [put, List.set, ev, nth, List.nil_append, List.cons_append, md, Nat.reducePow, Nat.reduceAdd, Nat.reduceMul]
          refine WL_det rfl (det_lenR Try.underlying22 rfl (fun w hw => RowO.rd hw 1 rfl h1) (sv_len ((stA es F (j)).map Prod.fst))) ?_
          dsimp only [put, List.set, ev, nth, List.nil_append, List.cons_append, md, Nat.reducePow, Nat.reduceAdd, Nat.reduceMul]
          refine WL_det rfl (Det.bv false (det_lss rfl rfl) (decide_eq_false (by rw [List.length_map]; exact hlt))) ?_
          dsimp only [put, List.set, ev, nth, List.nil_append, List.cons_append, md, Nat.reducePow, Nat.reduceAdd, Nat.reduceMul]
          refine WL_det rfl (det_move) ?_
          dsimp only [put, List.set, ev, nth, List.nil_append, List.cons_append, md, Nat.reducePow, Nat.reduceAdd, Nat.reduceMul]
          refine WL_skipG ?_ ?_
          · rfl
          dsimp only [put, List.set, ev, nth, List.nil_append, List.cons_append, md, Nat.reducePow, Nat.reduceAdd, Nat.reduceMul]
          refine WL_skipG ?_ ?_
          · rfl
          dsimp only [put, List.set, ev, nth, List.nil_append, List.cons_append, md, Nat.reducePow, Nat.reduceAdd, Nat.reduceMul]
          refine WL_det rfl (det_pick_false rfl) ?_
          dsimp only [put, List.set, ev, nth, List.nil_append, List.cons_append, md, Nat.reducePow, Nat.reduceAdd, Nat.reduceMul]
          refine WL_nil ?_
          refine WC_cond_false rfl ?_
          refine WC_exit ?_
          refine inB_same ?_
          refine WC_seq ?_
          refine WC_region ?_
          refine WL_det rfl (det_move) ?_
          dsimp only [put, List.set, ev, nth, List.nil_append, List.cons_append, md, Nat.reducePow, Nat.reduceAdd, Nat.reduceMul]
          refine WL_det rfl (det_move) ?_
          dsimp only [put, List.set, ev, nth, List.nil_append, List.cons_append, md, Nat.reducePow, Nat.reduceAdd, Nat.reduceMul]
          refine WL_det rfl (det_assign) ?_
          dsimp only [put, List.set, ev, nth, List.nil_append, List.cons_append, md, Nat.reducePow, Nat.reduceAdd, Nat.reduceMul]
          refine WL_det rfl (det_assign) ?_
          dsimp only [put, List.set, ev, nth, List.nil_append, List.cons_append, md, Nat.reducePow, Nat.reduceAdd, Nat.reduceMul]
          refine WL_nil ?_
          rw [← hS] at h1 h2
          refine WC_ret ?_
          refine fin_tmp2 Try.results61 rfl rfl ([e1, e2]) (.cons _ (List.Sublist.refl _)) ?_
          exact ⟨v1, v2, e1, e2, rfl, h1, h2, rfl⟩

end Go.Proofs.Ytocmlaloafmfkaa
