/- What the claim of this folder needs of its texts, put together by a program of this claim. Conditions: none. -/
import Derived.Test.YtocmlaloafmfkaaBLR17
set_option linter.unusedSectionVars false
set_option linter.unusedSimpArgs false
set_option linter.unusedVariables false
set_option linter.unusedVariables false
set_option linter.unusedSectionVars false
set_option linter.unusedSimpArgs false
namespace Go.Proofs.Ytocmlaloafmfkaa
open Go.MW
theorem pathI_all (gb : Nat) (es : List (Int × Int)) (F : List Int) (fv : Value) (to : Int) (hes : es.length ≤ 200) (hF : F.length ≤ 400) (w : World) (hG : GW intK 103 gb es w) (hf : RdL w (iv F) fv) :
    Calls Try.prog 25 #[.pointer (some ⟨gb, 0, none⟩), .int .i64 to, fv] w (Post w fun v m => ∃ v1 e1, v = .tuple #[v1, .bool (decide (to ∈ (srch es F).map Prod.fst))] ∧ RowO 3 (iv (pathL (srch es F) to)) v1 e1 ∧ m = [e1]) := by
  by_cases hto : to ∈ (srch es F).map Prod.fst
  · refine (pathI_yes gb es F fv to hes hF hto w hG hf).mono ?_
    rintro e1 w' ⟨v, mi, rfl, ⟨v1, e, rfl, h1, rfl⟩, hh⟩
    rw [decide_eq_true hto]
    exact ⟨_, _, rfl, ⟨v1, e, rfl, by unfold pathL; rw [if_pos hto]; exact h1, rfl⟩, hh⟩
  · refine (pathI_no gb es F fv to hes hF hto w hG hf).mono ?_
    rintro e1 w' ⟨v, mi, rfl, ⟨rfl, rfl⟩, hh⟩
    rw [decide_eq_false hto]
    exact ⟨_, _, rfl, ⟨_, (none, .cells #[] 3 (0, 0)), rfl, by unfold pathL; rw [if_neg hto]; exact RowO.nil _ _, rfl⟩, hh.addNone _⟩
theorem lenR_spec (gb : Nat) (es : List (Int × Int)) (hes : es.length ≤ 200) (w : World) (hG : GW intK 103 gb es w) : Calls Try.prog 30 #[.pointer (some ⟨gb, 0, none⟩)] w (PostV w (.tuple #[vn .i64 (nodesE es).length, vn .i64 es.length])) := by
  obtain ⟨N, O, hGr, hG⟩ := hG
  have hnl := nodes_len es
  rw [← hGr.nodes]
  exact lenG_spec gb N O es.length (by rw [hGr.nodes]; omega) (fun i => by have := hGr.olen i; omega) w hG

set_option maxRecDepth 100000 in
set_option maxHeartbeats 2000000 in
theorem lreach_spec (L : List (Int × Int)) (F : List Int) (to : Int) (va vb : Value) {w0 : World} {m0 : Mem} {w : World} (hw0 : Has w0 (m0) w) (hL : RdP w0 L va) (hF : RdL w0 (iv F) vb) :
    Calls Try.prog 7 [va, vb, .int .i64 to].toArray w (Post w0 fun v m => v = .bool true ∧ m = []) := by
  refine calls_of_WCm Try.func7 rfl ?_ hw0
  simp only [Try.ntmps7, List.length_cons, List.length_nil, Nat.reduceAdd, Nat.reduceSub, List.replicate, List.cons_append, List.nil_append]
  refine WC_seq ?_
  refine WC_region ?_
  refine WL_det rfl (det_assign) ?_
  dsimp only [put, List.take, List.drop, List.set, ev, nth, List.nil_append, List.cons_append, md, Nat.reducePow, Nat.reduceAdd, Nat.reduceMul]
  refine WL_nil ?_
  refine WC_seq ?_
  refine WC_seq ?_
  refine WC_region ?_
  refine WL_rel rfl (Rel_call rfl Try.call23 (fun w hw => lawake_spec w)) ?_
  rintro _ _ ⟨rfl, rfl⟩
  dsimp only [put, List.append_nil, List.set, ev, nth, List.nil_append, List.cons_append, md, Nat.reducePow, Nat.reduceAdd, Nat.reduceMul]
  try simp only [List.append_nil]
  refine WL_det rfl (det_not rfl) ?_
  dsimp only [put, List.take, List.drop, List.set, ev, nth, List.nil_append, List.cons_append, md, Nat.reducePow, Nat.reduceAdd, Nat.reduceMul]
  refine WL_nil ?_
  refine WC_cond_false rfl ?_
  refine WC_skip ?_
  refine WC_seq ?_
  refine WC_seq ?_
  by_cases h1 : 40 < L.length
  · refine WC_region ?_
    refine WL_det rfl (det_move) ?_
    dsimp only [put, List.take, List.drop, List.set, ev, nth, List.nil_append, List.cons_append, md, Nat.reducePow, Nat.reduceAdd, Nat.reduceMul]
    refine WL_det rfl (det_lenP Try.underlying52 rfl (fun w hw => RdP.far hw hL)) ?_
    dsimp only [put, List.take, List.drop, List.set, ev, nth, List.nil_append, List.cons_append, md, Nat.reducePow, Nat.reduceAdd, Nat.reduceMul]
    refine WL_det rfl (Det.bv true (det_gtr (q := 40) rfl rfl) (decide_eq_true h1)) ?_
    dsimp only [put, List.take, List.drop, List.set, ev, nth, List.nil_append, List.cons_append, md, Nat.reducePow, Nat.reduceAdd, Nat.reduceMul]
    refine WL_det rfl (det_move) ?_
    dsimp only [put, List.take, List.drop, List.set, ev, nth, List.nil_append, List.cons_append, md, Nat.reducePow, Nat.reduceAdd, Nat.reduceMul]
    refine WL_skipG ?_ ?_
    · rfl
    dsimp only [put, List.take, List.drop, List.set, ev, nth, List.nil_append, List.cons_append, md, Nat.reducePow, Nat.reduceAdd, Nat.reduceMul]
    refine WL_skipG ?_ ?_
    · rfl
    dsimp only [put, List.take, List.drop, List.set, ev, nth, List.nil_append, List.cons_append, md, Nat.reducePow, Nat.reduceAdd, Nat.reduceMul]
    refine WL_skipG ?_ ?_
    · rfl
    dsimp only [put, List.take, List.drop, List.set, ev, nth, List.nil_append, List.cons_append, md, Nat.reducePow, Nat.reduceAdd, Nat.reduceMul]
    refine WL_det rfl (det_pick_true rfl) ?_
    dsimp only [put, List.take, List.drop, List.set, ev, nth, List.nil_append, List.cons_append, md, Nat.reducePow, Nat.reduceAdd, Nat.reduceMul]
    refine WL_nil ?_
    refine WC_cond_true rfl ?_
    refine WC_seq ?_
    refine WC_region ?_
    refine WL_det rfl (det_assign) ?_
    dsimp only [put, List.take, List.drop, List.set, ev, nth, List.nil_append, List.cons_append, md, Nat.reducePow, Nat.reduceAdd, Nat.reduceMul]
    refine WL_nil ?_
    refine WC_ret ?_
    refine fin_tmp Try.results7 rfl ([]) (List.nil_sublist _) ?_
    exact ⟨rfl, rfl⟩
  · by_cases h2 : 20 < F.length
    · refine WC_region ?_
      refine WL_det rfl (det_move) ?_
      dsimp only [put, List.take, List.drop, List.set, ev, nth, List.nil_append, List.cons_append, md, Nat.reducePow, Nat.reduceAdd, Nat.reduceMul]
      refine WL_det rfl (det_lenP Try.underlying52 rfl (fun w hw => RdP.far hw hL)) ?_
      dsimp only [put, List.take, List.drop, List.set, ev, nth, List.nil_append, List.cons_append, md, Nat.reducePow, Nat.reduceAdd, Nat.reduceMul]
      refine WL_det rfl (Det.bv false (det_gtr (q := 40) rfl rfl) (decide_eq_false h1)) ?_
      dsimp only [put, List.take, List.drop, List.set, ev, nth, List.nil_append, List.cons_append, md, Nat.reducePow, Nat.reduceAdd, Nat.reduceMul]
      refine WL_det rfl (det_move) ?_
      dsimp only [put, List.take, List.drop, List.set, ev, nth, List.nil_append, List.cons_append, md, Nat.reducePow, Nat.reduceAdd, Nat.reduceMul]
      refine WL_detG rfl (det_move) ?_
      dsimp only [put, List.take, List.drop, List.set, ev, nth, List.nil_append, List.cons_append, md, Nat.reducePow, Nat.reduceAdd, Nat.reduceMul]
      refine WL_detG rfl (det_lenR Try.underlying43 rfl (fun w hw => RdL.far hw hF) (iv_len F)) ?_
      dsimp only [put, List.take, List.drop, List.set, ev, nth, List.nil_append, List.cons_append, md, Nat.reducePow, Nat.reduceAdd, Nat.reduceMul]
      refine WL_detG rfl (Det.bv true (det_gtr (q := 20) rfl rfl) (decide_eq_true h2)) ?_
      dsimp only [put, List.take, List.drop, List.set, ev, nth, List.nil_append, List.cons_append, md, Nat.reducePow, Nat.reduceAdd, Nat.reduceMul]
      refine WL_det rfl (det_pick_false rfl) ?_
      dsimp only [put, List.take, List.drop, List.set, ev, nth, List.nil_append, List.cons_append, md, Nat.reducePow, Nat.reduceAdd, Nat.reduceMul]
      refine WL_nil ?_
      refine WC_cond_true rfl ?_
      refine WC_seq ?_
      refine WC_region ?_
      refine WL_det rfl (det_assign) ?_
      dsimp only [put, List.take, List.drop, List.set, ev, nth, List.nil_append, List.cons_append, md, Nat.reducePow, Nat.reduceAdd, Nat.reduceMul]
      refine WL_nil ?_
      refine WC_ret ?_
      refine fin_tmp Try.results7 rfl ([]) (List.nil_sublist _) ?_
      exact ⟨rfl, rfl⟩
    · refine WC_region ?_
      refine WL_det rfl (det_move) ?_
      dsimp only [put, List.take, List.drop, List.set, ev, nth, List.nil_append, List.cons_append, md, Nat.reducePow, Nat.reduceAdd, Nat.reduceMul]
      refine WL_det rfl (det_lenP Try.underlying52 rfl (fun w hw => RdP.far hw hL)) ?_
      dsimp only [put, List.take, List.drop, List.set, ev, nth, List.nil_append, List.cons_append, md, Nat.reducePow, Nat.reduceAdd, Nat.reduceMul]
      refine WL_det rfl (Det.bv false (det_gtr (q := 40) rfl rfl) (decide_eq_false h1)) ?_
      dsimp only [put, List.take, List.drop, List.set, ev, nth, List.nil_append, List.cons_append, md, Nat.reducePow, Nat.reduceAdd, Nat.reduceMul]
      refine WL_det rfl (det_move) ?_
      dsimp only [put, List.take, List.drop, List.set, ev, nth, List.nil_append, List.cons_append, md, Nat.reducePow, Nat.reduceAdd, Nat.reduceMul]
      refine WL_detG rfl (det_move) ?_
      dsimp only [put, List.take, List.drop, List.set, ev, nth, List.nil_append, List.cons_append, md, Nat.reducePow, Nat.reduceAdd, Nat.reduceMul]
      refine WL_detG rfl (det_lenR Try.underlying43 rfl (fun w hw => RdL.far hw hF) (iv_len F)) ?_
      dsimp only [put, List.take, List.drop, List.set, ev, nth, List.nil_append, List.cons_append, md, Nat.reducePow, Nat.reduceAdd, Nat.reduceMul]
      refine WL_detG rfl (Det.bv false (det_gtr (q := 20) rfl rfl) (decide_eq_false h2)) ?_
      dsimp only [put, List.take, List.drop, List.set, ev, nth, List.nil_append, List.cons_append, md, Nat.reducePow, Nat.reduceAdd, Nat.reduceMul]
      refine WL_det rfl (det_pick_false rfl) ?_
      dsimp only [put, List.take, List.drop, List.set, ev, nth, List.nil_append, List.cons_append, md, Nat.reducePow, Nat.reduceAdd, Nat.reduceMul]
      refine WL_nil ?_
      refine WC_cond_false rfl ?_
      refine WC_skip ?_
      refine WC_seq ?_
      refine WC_region ?_
      refine WL_det rfl (det_move) ?_
      dsimp only [put, List.take, List.drop, List.set, ev, nth, List.nil_append, List.cons_append, md, Nat.reducePow, Nat.reduceAdd, Nat.reduceMul]
      refine WL_chg rfl (Chg_call rfl Try.call24 (fun w hw => graph_spec L va (by omega) hw hL)) ?_
      rintro _ _ ⟨M, ⟨gb, rfl, hM⟩, rfl⟩
      have hol := once_len L
      dsimp only [put, setM, List.zip, List.zipWith, List.take, List.drop, List.append_nil, List.set, ev, nth, List.nil_append, List.cons_append, md, Nat.reducePow, Nat.reduceAdd, Nat.reduceMul]
      refine WL_det rfl (det_move) ?_
      dsimp only [put, List.take, List.drop, List.set, ev, nth, List.nil_append, List.cons_append, md, Nat.reducePow, Nat.reduceAdd, Nat.reduceMul]
      refine WL_relAt 0 rfl (Rel_call rfl Try.call29 (fun w hw => once_spec L va (by omega) w (RdP.far hw hL))) ?_
      rintro v8 _ ⟨e8, h8, rfl⟩
      dsimp only [put, List.append_nil, List.take, List.drop, List.set, ev, nth, List.nil_append, List.cons_append, md, Nat.reducePow, Nat.reduceAdd, Nat.reduceMul]
      try simp only [List.append_nil]
      refine WL_det rfl (det_assign) ?_
      dsimp only [put, List.take, List.drop, List.set, ev, nth, List.nil_append, List.cons_append, md, Nat.reducePow, Nat.reduceAdd, Nat.reduceMul]
      refine WL_det rfl (det_assign) ?_
      dsimp only [put, List.take, List.drop, List.set, ev, nth, List.nil_append, List.cons_append, md, Nat.reducePow, Nat.reduceAdd, Nat.reduceMul]
      refine WL_nil ?_
      refine WC_seq ?_
      refine WC_region ?_
      refine WL_det rfl (det_move) ?_
      dsimp only [put, List.take, List.drop, List.set, ev, nth, List.nil_append, List.cons_append, md, Nat.reducePow, Nat.reduceAdd, Nat.reduceMul]
      refine WL_rel rfl (Rel_call rfl Try.call30 (fun w hw => lenR_spec gb _ (by omega) w (hM.facts (Has.dropN hw 1)))) ?_
      rintro _ _ ⟨rfl, rfl⟩
      dsimp only [put, List.append_nil, List.set, ev, nth, List.nil_append, List.cons_append, md, Nat.reducePow, Nat.reduceAdd, Nat.reduceMul]
      try simp only [List.append_nil]
      refine WL_det rfl (det_move) ?_
      dsimp only [put, List.take, List.drop, List.set, ev, nth, List.nil_append, List.cons_append, md, Nat.reducePow, Nat.reduceAdd, Nat.reduceMul]
      refine WL_det rfl (det_extract rfl rfl) ?_
      dsimp only [put, List.take, List.drop, List.set, ev, nth, List.nil_append, List.cons_append, md, Nat.reducePow, Nat.reduceAdd, Nat.reduceMul]
      refine WL_det rfl (det_extract rfl rfl) ?_
      dsimp only [put, List.take, List.drop, List.set, ev, nth, List.nil_append, List.cons_append, md, Nat.reducePow, Nat.reduceAdd, Nat.reduceMul]
      refine WL_det rfl (det_assign) ?_
      dsimp only [put, List.take, List.drop, List.set, ev, nth, List.nil_append, List.cons_append, md, Nat.reducePow, Nat.reduceAdd, Nat.reduceMul]
      refine WL_det rfl (det_assign) ?_
      dsimp only [put, List.take, List.drop, List.set, ev, nth, List.nil_append, List.cons_append, md, Nat.reducePow, Nat.reduceAdd, Nat.reduceMul]
      refine WL_nil ?_
      refine WC_seq ?_
      refine WC_region ?_
      refine WL_det rfl (det_move) ?_
      dsimp only [put, List.take, List.drop, List.set, ev, nth, List.nil_append, List.cons_append, md, Nat.reducePow, Nat.reduceAdd, Nat.reduceMul]
      refine WL_det rfl (det_move) ?_
      dsimp only [put, List.take, List.drop, List.set, ev, nth, List.nil_append, List.cons_append, md, Nat.reducePow, Nat.reduceAdd, Nat.reduceMul]
      refine WL_relAt 1 rfl (Rel_call rfl Try.call31 (fun w hw => rsearch_spec _ F v8 vb (by omega) (by omega) w (RowP.rd hw 0 rfl h8) (RdL.far hw hF))) ?_
      rintro _ _ ⟨v11, v12, e11, e12, rfl, h11, h12, rfl⟩
      dsimp only [put, List.append_nil, List.take, List.drop, List.set, ev, nth, List.nil_append, List.cons_append, md, Nat.reducePow, Nat.reduceAdd, Nat.reduceMul]
      try simp only [List.append_nil]
      refine WL_det rfl (det_move) ?_
      dsimp only [put, List.take, List.drop, List.set, ev, nth, List.nil_append, List.cons_append, md, Nat.reducePow, Nat.reduceAdd, Nat.reduceMul]
      refine WL_det rfl (det_extract rfl rfl) ?_
      dsimp only [put, List.take, List.drop, List.set, ev, nth, List.nil_append, List.cons_append, md, Nat.reducePow, Nat.reduceAdd, Nat.reduceMul]
      refine WL_det rfl (det_extract rfl rfl) ?_
      dsimp only [put, List.take, List.drop, List.set, ev, nth, List.nil_append, List.cons_append, md, Nat.reducePow, Nat.reduceAdd, Nat.reduceMul]
      refine WL_det rfl (det_assign) ?_
      dsimp only [put, List.take, List.drop, List.set, ev, nth, List.nil_append, List.cons_append, md, Nat.reducePow, Nat.reduceAdd, Nat.reduceMul]
      refine WL_det rfl (det_assign) ?_
      dsimp only [put, List.take, List.drop, List.set, ev, nth, List.nil_append, List.cons_append, md, Nat.reducePow, Nat.reduceAdd, Nat.reduceMul]
      refine WL_nil ?_
      refine WC_seq ?_
      refine WC_region ?_
      refine WL_det rfl (det_move) ?_
      dsimp only [put, List.take, List.drop, List.set, ev, nth, List.nil_append, List.cons_append, md, Nat.reducePow, Nat.reduceAdd, Nat.reduceMul]
      refine WL_det rfl (det_move) ?_
      dsimp only [put, List.take, List.drop, List.set, ev, nth, List.nil_append, List.cons_append, md, Nat.reducePow, Nat.reduceAdd, Nat.reduceMul]
      refine WL_det rfl (det_move) ?_
      dsimp only [put, List.take, List.drop, List.set, ev, nth, List.nil_append, List.cons_append, md, Nat.reducePow, Nat.reduceAdd, Nat.reduceMul]
      refine WL_relAt 3 rfl (Rel_call rfl Try.call32 (fun w hw => rpath_spec _ F to v8 vb (by omega) (by omega) w (RowP.rd hw 0 rfl h8) (RdL.far hw hF))) ?_
      rintro _ _ ⟨v13, e13, rfl, h13, rfl⟩
      dsimp only [put, List.append_nil, List.take, List.drop, List.set, ev, nth, List.nil_append, List.cons_append, md, Nat.reducePow, Nat.reduceAdd, Nat.reduceMul]
      try simp only [List.append_nil]
      refine WL_det rfl (det_move) ?_
      dsimp only [put, List.take, List.drop, List.set, ev, nth, List.nil_append, List.cons_append, md, Nat.reducePow, Nat.reduceAdd, Nat.reduceMul]
      refine WL_det rfl (det_extract rfl rfl) ?_
      dsimp only [put, List.take, List.drop, List.set, ev, nth, List.nil_append, List.cons_append, md, Nat.reducePow, Nat.reduceAdd, Nat.reduceMul]
      refine WL_det rfl (det_extract rfl rfl) ?_
      dsimp only [put, List.take, List.drop, List.set, ev, nth, List.nil_append, List.cons_append, md, Nat.reducePow, Nat.reduceAdd, Nat.reduceMul]
      refine WL_det rfl (det_assign) ?_
      dsimp only [put, List.take, List.drop, List.set, ev, nth, List.nil_append, List.cons_append, md, Nat.reducePow, Nat.reduceAdd, Nat.reduceMul]
      refine WL_det rfl (det_assign) ?_
      dsimp only [put, List.take, List.drop, List.set, ev, nth, List.nil_append, List.cons_append, md, Nat.reducePow, Nat.reduceAdd, Nat.reduceMul]
      refine WL_nil ?_
      refine WC_seq ?_
      refine WC_region ?_
      refine WL_det rfl (det_move) ?_
      dsimp only [put, List.take, List.drop, List.set, ev, nth, List.nil_append, List.cons_append, md, Nat.reducePow, Nat.reduceAdd, Nat.reduceMul]
      refine WL_det rfl (det_move) ?_
      dsimp only [put, List.take, List.drop, List.set, ev, nth, List.nil_append, List.cons_append, md, Nat.reducePow, Nat.reduceAdd, Nat.reduceMul]
      refine WL_det rfl (det_move) ?_
      dsimp only [put, List.take, List.drop, List.set, ev, nth, List.nil_append, List.cons_append, md, Nat.reducePow, Nat.reduceAdd, Nat.reduceMul]
      refine WL_relAt 4 rfl (Rel_call rfl Try.call25 (fun w hw => pathI_all gb _ F vb to (by omega) (by omega) w (hM.facts (Has.dropN hw 4)) (RdL.far hw hF))) ?_
      rintro _ _ ⟨v15, e15, rfl, h15, rfl⟩
      dsimp only [put, List.append_nil, List.take, List.drop, List.set, ev, nth, List.nil_append, List.cons_append, md, Nat.reducePow, Nat.reduceAdd, Nat.reduceMul]
      try simp only [List.append_nil]
      refine WL_det rfl (det_move) ?_
      dsimp only [put, List.take, List.drop, List.set, ev, nth, List.nil_append, List.cons_append, md, Nat.reducePow, Nat.reduceAdd, Nat.reduceMul]
      refine WL_det rfl (det_extract rfl rfl) ?_
      dsimp only [put, List.take, List.drop, List.set, ev, nth, List.nil_append, List.cons_append, md, Nat.reducePow, Nat.reduceAdd, Nat.reduceMul]
      refine WL_det rfl (det_extract rfl rfl) ?_
      dsimp only [put, List.take, List.drop, List.set, ev, nth, List.nil_append, List.cons_append, md, Nat.reducePow, Nat.reduceAdd, Nat.reduceMul]
      refine WL_det rfl (det_assign) ?_
      dsimp only [put, List.take, List.drop, List.set, ev, nth, List.nil_append, List.cons_append, md, Nat.reducePow, Nat.reduceAdd, Nat.reduceMul]
      refine WL_det rfl (det_assign) ?_
      dsimp only [put, List.take, List.drop, List.set, ev, nth, List.nil_append, List.cons_append, md, Nat.reducePow, Nat.reduceAdd, Nat.reduceMul]
      refine WL_nil ?_
      refine WC_seq ?_
      refine WC_region ?_
      refine WL_det rfl (det_move) ?_
      dsimp only [put, List.take, List.drop, List.set, ev, nth, List.nil_append, List.cons_append, md, Nat.reducePow, Nat.reduceAdd, Nat.reduceMul]
      refine WL_det rfl (det_move) ?_
      dsimp only [put, List.take, List.drop, List.set, ev, nth, List.nil_append, List.cons_append, md, Nat.reducePow, Nat.reduceAdd, Nat.reduceMul]
      refine WL_relAt 5 rfl (Rel_call rfl Try.call33 (fun w hw => nodes_spec _ v8 (by omega) w (RowP.rd hw 0 rfl h8))) ?_
      rintro v58 _ ⟨e58, h58, rfl⟩
      dsimp only [put, List.append_nil, List.take, List.drop, List.set, ev, nth, List.nil_append, List.cons_append, md, Nat.reducePow, Nat.reduceAdd, Nat.reduceMul]
      try simp only [List.append_nil]
      refine WL_det rfl (det_lenR Try.underlying43 rfl (fun w hw => RowO.rd hw 5 rfl h58) (iv_len (nodesE (onceE L)))) ?_
      dsimp only [put, List.take, List.drop, List.set, ev, nth, List.nil_append, List.cons_append, md, Nat.reducePow, Nat.reduceAdd, Nat.reduceMul]
      refine WL_det rfl (Det.bv true (det_eql rfl rfl) (decide_eq_true rfl)) ?_
      dsimp only [put, List.take, List.drop, List.set, ev, nth, List.nil_append, List.cons_append, md, Nat.reducePow, Nat.reduceAdd, Nat.reduceMul]
      refine WL_det rfl (det_move) ?_
      dsimp only [put, List.take, List.drop, List.set, ev, nth, List.nil_append, List.cons_append, md, Nat.reducePow, Nat.reduceAdd, Nat.reduceMul]
      refine WL_detG rfl (det_move) ?_
      dsimp only [put, List.take, List.drop, List.set, ev, nth, List.nil_append, List.cons_append, md, Nat.reducePow, Nat.reduceAdd, Nat.reduceMul]
      refine WL_detG rfl (det_move) ?_
      dsimp only [put, List.take, List.drop, List.set, ev, nth, List.nil_append, List.cons_append, md, Nat.reducePow, Nat.reduceAdd, Nat.reduceMul]
      refine WL_detG rfl (det_lenP Try.underlying52 rfl (fun w hw => RowP.rd hw 0 rfl h8)) ?_
      dsimp only [put, List.take, List.drop, List.set, ev, nth, List.nil_append, List.cons_append, md, Nat.reducePow, Nat.reduceAdd, Nat.reduceMul]
      refine WL_detG rfl (Det.bv true (det_eql rfl rfl) (decide_eq_true rfl)) ?_
      dsimp only [put, List.take, List.drop, List.set, ev, nth, List.nil_append, List.cons_append, md, Nat.reducePow, Nat.reduceAdd, Nat.reduceMul]
      refine WL_det rfl (det_pick_true rfl) ?_
      dsimp only [put, List.take, List.drop, List.set, ev, nth, List.nil_append, List.cons_append, md, Nat.reducePow, Nat.reduceAdd, Nat.reduceMul]
      refine WL_det rfl (det_move) ?_
      dsimp only [put, List.take, List.drop, List.set, ev, nth, List.nil_append, List.cons_append, md, Nat.reducePow, Nat.reduceAdd, Nat.reduceMul]
      refine WL_detG rfl (det_move) ?_
      dsimp only [put, List.take, List.drop, List.set, ev, nth, List.nil_append, List.cons_append, md, Nat.reducePow, Nat.reduceAdd, Nat.reduceMul]
      refine WL_detG rfl (det_move) ?_
      dsimp only [put, List.take, List.drop, List.set, ev, nth, List.nil_append, List.cons_append, md, Nat.reducePow, Nat.reduceAdd, Nat.reduceMul]
      refine WL_relAtG 6 rfl (Rel_call rfl Try.call27 (fun w hw => reachI_spec gb _ F vb (by omega) (by omega) w (hM.facts (Has.dropN hw 6)) (RdL.far hw hF))) ?_
      rintro v70 _ ⟨e70, h70, rfl⟩
      dsimp only [put, List.append_nil, List.take, List.drop, List.set, ev, nth, List.nil_append, List.cons_append, md, Nat.reducePow, Nat.reduceAdd, Nat.reduceMul]
      try simp only [List.append_nil]
      refine WL_detG rfl (det_move) ?_
      dsimp only [put, List.take, List.drop, List.set, ev, nth, List.nil_append, List.cons_append, md, Nat.reducePow, Nat.reduceAdd, Nat.reduceMul]
      refine WL_relG rfl (Rel_call rfl Try.call21 (fun w hw => ints_same ((srch (onceE L) F).map Prod.fst) v70 v11 (by have := srch_len (onceE L) F; omega) w (RdL.z (RowO.rd hw 6 rfl h70)) (RdL.z (RowO.rd hw 1 rfl h11)))) ?_
      rintro _ _ ⟨rfl, rfl⟩
      dsimp only [put, List.append_nil, List.set, ev, nth, List.nil_append, List.cons_append, md, Nat.reducePow, Nat.reduceAdd, Nat.reduceMul]
      try simp only [List.append_nil]
      refine WL_det rfl (det_pick_true rfl) ?_
      dsimp only [put, List.take, List.drop, List.set, ev, nth, List.nil_append, List.cons_append, md, Nat.reducePow, Nat.reduceAdd, Nat.reduceMul]
      refine WL_det rfl (det_move) ?_
      dsimp only [put, List.take, List.drop, List.set, ev, nth, List.nil_append, List.cons_append, md, Nat.reducePow, Nat.reduceAdd, Nat.reduceMul]
      refine WL_detG rfl (det_move) ?_
      dsimp only [put, List.take, List.drop, List.set, ev, nth, List.nil_append, List.cons_append, md, Nat.reducePow, Nat.reduceAdd, Nat.reduceMul]
      refine WL_detG rfl (det_move) ?_
      dsimp only [put, List.take, List.drop, List.set, ev, nth, List.nil_append, List.cons_append, md, Nat.reducePow, Nat.reduceAdd, Nat.reduceMul]
      refine WL_detG rfl (Det.bv true (det_eqlB rfl rfl Try.underlying4) (by simp)) ?_
      dsimp only [put, List.take, List.drop, List.set, ev, nth, List.nil_append, List.cons_append, md, Nat.reducePow, Nat.reduceAdd, Nat.reduceMul]
      refine WL_det rfl (det_pick_true rfl) ?_
      dsimp only [put, List.take, List.drop, List.set, ev, nth, List.nil_append, List.cons_append, md, Nat.reducePow, Nat.reduceAdd, Nat.reduceMul]
      refine WL_det rfl (det_move) ?_
      dsimp only [put, List.take, List.drop, List.set, ev, nth, List.nil_append, List.cons_append, md, Nat.reducePow, Nat.reduceAdd, Nat.reduceMul]
      refine WL_detG rfl (det_move) ?_
      dsimp only [put, List.take, List.drop, List.set, ev, nth, List.nil_append, List.cons_append, md, Nat.reducePow, Nat.reduceAdd, Nat.reduceMul]
      refine WL_detG rfl (det_move) ?_
      dsimp only [put, List.take, List.drop, List.set, ev, nth, List.nil_append, List.cons_append, md, Nat.reducePow, Nat.reduceAdd, Nat.reduceMul]
      refine WL_relG rfl (Rel_call rfl Try.call21 (fun w hw => ints_same (pathL (srch (onceE L) F) to) v15 v13 (by unfold pathL; split; exact Nat.le_trans (path_len (by assumption)) (by omega); exact Nat.zero_le _) w (RdL.z (RowO.rd hw 4 rfl h15)) (RdL.z (RowO.rd hw 3 rfl h13)))) ?_
      rintro _ _ ⟨rfl, rfl⟩
      dsimp only [put, List.append_nil, List.set, ev, nth, List.nil_append, List.cons_append, md, Nat.reducePow, Nat.reduceAdd, Nat.reduceMul]
      try simp only [List.append_nil]
      refine WL_det rfl (det_pick_true rfl) ?_
      dsimp only [put, List.take, List.drop, List.set, ev, nth, List.nil_append, List.cons_append, md, Nat.reducePow, Nat.reduceAdd, Nat.reduceMul]
      refine WL_det rfl (det_assign) ?_
      dsimp only [put, List.take, List.drop, List.set, ev, nth, List.nil_append, List.cons_append, md, Nat.reducePow, Nat.reduceAdd, Nat.reduceMul]
      refine WL_nil ?_
      refine WC_ret ?_
      refine fin_tmp Try.results7 rfl ([]) (List.nil_sublist _) ?_
      exact ⟨rfl, rfl⟩

end Go.Proofs.Ytocmlaloafmfkaa
