/- What the claim of this folder needs of its texts, put together by a program of this claim. Conditions: none. -/
import Derived.Test.YtocmlaloafmfkaaBLO18
set_option linter.unusedSectionVars false
set_option linter.unusedSimpArgs false
set_option linter.unusedVariables false
set_option linter.unusedVariables false
set_option linter.unusedSectionVars false
set_option linter.unusedSimpArgs false
namespace Go.Proofs.Ytocmlaloafmfkaa
open Go.MW
set_option maxRecDepth 100000 in
set_option maxHeartbeats 4000000 in
theorem lorder_spec (L : List (Int × Int)) (T : List (Str × Str)) (va vt : Value) {w0 : World} {m0 : Mem} {w : World} (hw0 : Has w0 (m0) w) (hL : RdP w0 L va) (hT : RdQ w0 T vt) :
    Calls Try.prog 8 [va, vt].toArray w (Post w0 fun v m => v = .bool true ∧ m = []) := by
  refine calls_of_WCm Try.func8 rfl ?_ hw0
  simp only [Try.ntmps8, List.length_cons, List.length_nil, Nat.reduceAdd, Nat.reduceSub, List.replicate, List.cons_append, List.nil_append]
  refine WC_seq ?_
  refine WC_region ?_
  refine WL_det rfl (det_assign) ?_
  dsimp only [put, List.take, List.drop, List.set, ev, nth, List.nil_append, List.cons_append, md, Nat.reducePow, Nat.reduceAdd, Nat.reduceMul]
  refine WL_nil ?_
  refine WC_seq ?_
  refine WC_seq ?_
  refine WC_region ?_
  refine WL_rel rfl (Rel_call rfl Try.call23 (fun w hw => lawake_spec w)) ?_
  rintro _ _ ⟨rfl, rfl⟩
  dsimp only [put, List.append_nil, List.set, ev, nth, List.nil_append, List.cons_append, md, Nat.reducePow, Nat.reduceAdd, Nat.reduceMul]
  try simp only [List.append_nil]
  refine WL_det rfl (det_not rfl) ?_
  dsimp only [put, List.take, List.drop, List.set, ev, nth, List.nil_append, List.cons_append, md, Nat.reducePow, Nat.reduceAdd, Nat.reduceMul]
  refine WL_nil ?_
  refine WC_cond_false rfl ?_
  refine WC_skip ?_
  refine WC_seq ?_
  refine WC_region ?_
  refine WL_det rfl (det_assign) ?_
  dsimp only [put, List.take, List.drop, List.set, ev, nth, List.nil_append, List.cons_append, md, Nat.reducePow, Nat.reduceAdd, Nat.reduceMul]
  refine WL_nil ?_
  refine WC_seq ?_
  refine WC_seq ?_
  refine WC_region ?_
  refine WL_det rfl (det_move) ?_
  dsimp only [put, List.take, List.drop, List.set, ev, nth, List.nil_append, List.cons_append, md, Nat.reducePow, Nat.reduceAdd, Nat.reduceMul]
  refine WL_rel rfl (Rel_call rfl Try.call30 (fun w hw => lenG_nil w)) ?_
  rintro _ _ ⟨rfl, rfl⟩
  dsimp only [put, List.append_nil, List.set, ev, nth, List.nil_append, List.cons_append, md, Nat.reducePow, Nat.reduceAdd, Nat.reduceMul]
  try simp only [List.append_nil]
  refine WL_det rfl (det_move) ?_
  dsimp only [put, List.take, List.drop, List.set, ev, nth, List.nil_append, List.cons_append, md, Nat.reducePow, Nat.reduceAdd, Nat.reduceMul]
  refine WL_det rfl (det_extract rfl rfl) ?_
  dsimp only [put, List.take, List.drop, List.set, ev, nth, List.nil_append, List.cons_append, md, Nat.reducePow, Nat.reduceAdd, Nat.reduceMul]
  refine WL_det rfl (det_extract rfl rfl) ?_
  dsimp only [put, List.take, List.drop, List.set, ev, nth, List.nil_append, List.cons_append, md, Nat.reducePow, Nat.reduceAdd, Nat.reduceMul]
  refine WL_det rfl (det_assign) ?_
  dsimp only [put, List.take, List.drop, List.set, ev, nth, List.nil_append, List.cons_append, md, Nat.reducePow, Nat.reduceAdd, Nat.reduceMul]
  refine WL_det rfl (det_assign) ?_
  dsimp only [put, List.take, List.drop, List.set, ev, nth, List.nil_append, List.cons_append, md, Nat.reducePow, Nat.reduceAdd, Nat.reduceMul]
  refine WL_nil ?_
  refine WC_seq ?_
  refine WC_region ?_
  refine WL_det rfl (det_move) ?_
  dsimp only [put, List.take, List.drop, List.set, ev, nth, List.nil_append, List.cons_append, md, Nat.reducePow, Nat.reduceAdd, Nat.reduceMul]
  refine WL_rel rfl (Rel_call rfl Try.call28 (fun w hw => edgeI_no 1 2 w)) ?_
  rintro _ _ ⟨rfl, rfl⟩
  dsimp only [put, List.append_nil, List.set, ev, nth, List.nil_append, List.cons_append, md, Nat.reducePow, Nat.reduceAdd, Nat.reduceMul]
  try simp only [List.append_nil]
  refine WL_det rfl (Det.bv false (det_neq (q := 1) rfl rfl) (by decide)) ?_
  dsimp only [put, List.take, List.drop, List.set, ev, nth, List.nil_append, List.cons_append, md, Nat.reducePow, Nat.reduceAdd, Nat.reduceMul]
  refine WL_det rfl (det_move) ?_
  dsimp only [put, List.take, List.drop, List.set, ev, nth, List.nil_append, List.cons_append, md, Nat.reducePow, Nat.reduceAdd, Nat.reduceMul]
  refine WL_detG rfl (det_move) ?_
  dsimp only [put, List.take, List.drop, List.set, ev, nth, List.nil_append, List.cons_append, md, Nat.reducePow, Nat.reduceAdd, Nat.reduceMul]
  refine WL_detG rfl (det_move) ?_
  dsimp only [put, List.take, List.drop, List.set, ev, nth, List.nil_append, List.cons_append, md, Nat.reducePow, Nat.reduceAdd, Nat.reduceMul]
  refine WL_detG rfl (det_addi rfl rfl (by omega)) ?_
  dsimp only [put, List.take, List.drop, List.set, ev, nth, List.nil_append, List.cons_append, md, Nat.reducePow, Nat.reduceAdd, Nat.reduceMul]
  refine WL_detG rfl (Det.bv false (det_neq (q := 0) rfl rfl) (by decide)) ?_
  dsimp only [put, List.take, List.drop, List.set, ev, nth, List.nil_append, List.cons_append, md, Nat.reducePow, Nat.reduceAdd, Nat.reduceMul]
  refine WL_det rfl (det_pick_false rfl) ?_
  dsimp only [put, List.take, List.drop, List.set, ev, nth, List.nil_append, List.cons_append, md, Nat.reducePow, Nat.reduceAdd, Nat.reduceMul]
  refine WL_det rfl (det_move) ?_
  dsimp only [put, List.take, List.drop, List.set, ev, nth, List.nil_append, List.cons_append, md, Nat.reducePow, Nat.reduceAdd, Nat.reduceMul]
  refine WL_detG rfl (det_move) ?_
  dsimp only [put, List.take, List.drop, List.set, ev, nth, List.nil_append, List.cons_append, md, Nat.reducePow, Nat.reduceAdd, Nat.reduceMul]
  refine WL_relAtG 0 rfl (rel_lit (c := ivA [5, 5]) Try.underlying43 Try.zeroValue3 Try.sizeOf3 (by decide) (by decide) (by kernel_rfl)) ?_
  rintro _ _ ⟨b0, rfl, rfl⟩
  dsimp only [put, List.take, List.drop, List.set, ev, nth, List.nil_append, List.cons_append, md, Nat.reducePow, Nat.reduceAdd, Nat.reduceMul]
  refine WL_relAtG 1 rfl (Rel_call rfl Try.call27 (fun w hw => reachI_nil [5, 5] _ (by decide) w (ivA_rd (D := [5, 5]) hw 0 rfl rfl))) ?_
  rintro v44 _ ⟨e44, h44, rfl⟩
  rw [show (seedA [(5 : Int), 5]).map Prod.fst = [5] by kernel_rfl] at h44
  dsimp only [put, List.append_nil, List.take, List.drop, List.set, ev, nth, List.nil_append, List.cons_append, md, Nat.reducePow, Nat.reduceAdd, Nat.reduceMul]
  try simp only [List.append_nil]
  refine WL_relAtG 2 rfl (rel_lit1 Try.underlying43 Try.zeroValue3 Try.sizeOf3 rfl rfl) ?_
  rintro _ _ ⟨bl, rfl, rfl⟩
  dsimp only [put, List.take, List.drop, List.set, ev, nth, List.nil_append, List.cons_append, md, Nat.reducePow, Nat.reduceAdd, Nat.reduceMul]
  refine WL_relG rfl (Rel_call rfl Try.call21 (fun w hw => ints_same [5] v44 _ (by decide) w (RdL.z (RowO.rd hw 1 rfl h44)) (RdL.z (ivA_rd (D := [5]) hw 2 rfl rfl)))) ?_
  rintro _ _ ⟨rfl, rfl⟩
  dsimp only [put, List.append_nil, List.set, ev, nth, List.nil_append, List.cons_append, md, Nat.reducePow, Nat.reduceAdd, Nat.reduceMul]
  try simp only [List.append_nil]
  refine WL_detG rfl (Det.bv false (det_not rfl) (rfl)) ?_
  dsimp only [put, List.take, List.drop, List.set, ev, nth, List.nil_append, List.cons_append, md, Nat.reducePow, Nat.reduceAdd, Nat.reduceMul]
  refine WL_det rfl (det_pick_false rfl) ?_
  dsimp only [put, List.take, List.drop, List.set, ev, nth, List.nil_append, List.cons_append, md, Nat.reducePow, Nat.reduceAdd, Nat.reduceMul]
  refine WL_nil ?_
  refine WC.forget (.cons _ (.cons _ (.cons _ (List.Sublist.refl _)))) ?_
  refine WC_cond_false rfl ?_
  refine WC_skip ?_
  refine WC_seq ?_
  refine WC_seq ?_
  by_cases h1 : 30 < L.length
  · refine WC_region ?_
    refine WL_det rfl (det_move) ?_
    dsimp only [put, List.take, List.drop, List.set, ev, nth, List.nil_append, List.cons_append, md, Nat.reducePow, Nat.reduceAdd, Nat.reduceMul]
    refine WL_det rfl (det_lenP Try.underlying52 rfl (fun w hw => RdP.far hw hL)) ?_
    dsimp only [put, List.take, List.drop, List.set, ev, nth, List.nil_append, List.cons_append, md, Nat.reducePow, Nat.reduceAdd, Nat.reduceMul]
    refine WL_det rfl (Det.bv true (det_gtr (q := 30) rfl rfl) (decide_eq_true h1)) ?_
    dsimp only [put, List.take, List.drop, List.set, ev, nth, List.nil_append, List.cons_append, md, Nat.reducePow, Nat.reduceAdd, Nat.reduceMul]
    refine WL_det rfl (det_move) ?_
    dsimp only [put, List.take, List.drop, List.set, ev, nth, List.nil_append, List.cons_append, md, Nat.reducePow, Nat.reduceAdd, Nat.reduceMul]
    refine WL_skipG ?_ ?_
    · rfl
    dsimp only [put, List.take, List.drop, List.set, ev, nth, List.nil_append, List.cons_append, md, Nat.reducePow, Nat.reduceAdd, Nat.reduceMul]
    refine WL_skipG ?_ ?_
    · rfl
    dsimp only [put, List.take, List.drop, List.set, ev, nth, List.nil_append, List.cons_append, md, Nat.reducePow, Nat.reduceAdd, Nat.reduceMul]
    refine WL_skipG ?_ ?_
    · rfl
    dsimp only [put, List.take, List.drop, List.set, ev, nth, List.nil_append, List.cons_append, md, Nat.reducePow, Nat.reduceAdd, Nat.reduceMul]
    refine WL_det rfl (det_pick_true rfl) ?_
    dsimp only [put, List.take, List.drop, List.set, ev, nth, List.nil_append, List.cons_append, md, Nat.reducePow, Nat.reduceAdd, Nat.reduceMul]
    refine WL_nil ?_
    refine WC_cond_true rfl ?_
    refine WC_seq ?_
    refine WC_region ?_
    refine WL_det rfl (det_assign) ?_
    dsimp only [put, List.take, List.drop, List.set, ev, nth, List.nil_append, List.cons_append, md, Nat.reducePow, Nat.reduceAdd, Nat.reduceMul]
    refine WL_nil ?_
    refine WC_ret ?_
    refine fin_tmp Try.results8 rfl ([]) (List.nil_sublist _) ?_
    exact ⟨rfl, rfl⟩
  · by_cases h2 : 30 < T.length
    · refine WC_region ?_
      refine WL_det rfl (det_move) ?_
      dsimp only [put, List.take, List.drop, List.set, ev, nth, List.nil_append, List.cons_append, md, Nat.reducePow, Nat.reduceAdd, Nat.reduceMul]
      refine WL_det rfl (det_lenP Try.underlying52 rfl (fun w hw => RdP.far hw hL)) ?_
      dsimp only [put, List.take, List.drop, List.set, ev, nth, List.nil_append, List.cons_append, md, Nat.reducePow, Nat.reduceAdd, Nat.reduceMul]
      refine WL_det rfl (Det.bv false (det_gtr (q := 30) rfl rfl) (decide_eq_false h1)) ?_
      dsimp only [put, List.take, List.drop, List.set, ev, nth, List.nil_append, List.cons_append, md, Nat.reducePow, Nat.reduceAdd, Nat.reduceMul]
      refine WL_det rfl (det_move) ?_
      dsimp only [put, List.take, List.drop, List.set, ev, nth, List.nil_append, List.cons_append, md, Nat.reducePow, Nat.reduceAdd, Nat.reduceMul]
      refine WL_detG rfl (det_move) ?_
      dsimp only [put, List.take, List.drop, List.set, ev, nth, List.nil_append, List.cons_append, md, Nat.reducePow, Nat.reduceAdd, Nat.reduceMul]
      refine WL_detG rfl (det_lenQ Try.underlying71 rfl (fun w hw => RdQ.far hw hT)) ?_
      dsimp only [put, List.take, List.drop, List.set, ev, nth, List.nil_append, List.cons_append, md, Nat.reducePow, Nat.reduceAdd, Nat.reduceMul]
      refine WL_detG rfl (Det.bv true (det_gtr (q := 30) rfl rfl) (decide_eq_true h2)) ?_
      dsimp only [put, List.take, List.drop, List.set, ev, nth, List.nil_append, List.cons_append, md, Nat.reducePow, Nat.reduceAdd, Nat.reduceMul]
      refine WL_det rfl (det_pick_false rfl) ?_
      dsimp only [put, List.take, List.drop, List.set, ev, nth, List.nil_append, List.cons_append, md, Nat.reducePow, Nat.reduceAdd, Nat.reduceMul]
      refine WL_nil ?_
      refine WC_cond_true rfl ?_
      refine WC_seq ?_
      refine WC_region ?_
      refine WL_det rfl (det_assign) ?_
      dsimp only [put, List.take, List.drop, List.set, ev, nth, List.nil_append, List.cons_append, md, Nat.reducePow, Nat.reduceAdd, Nat.reduceMul]
      refine WL_nil ?_
      refine WC_ret ?_
      refine fin_tmp Try.results8 rfl ([]) (List.nil_sublist _) ?_
      exact ⟨rfl, rfl⟩
    · refine WC_region ?_
      refine WL_det rfl (det_move) ?_
      dsimp only [put, List.take, List.drop, List.set, ev, nth, List.nil_append, List.cons_append, md, Nat.reducePow, Nat.reduceAdd, Nat.reduceMul]
      refine WL_det rfl (det_lenP Try.underlying52 rfl (fun w hw => RdP.far hw hL)) ?_
      dsimp only [put, List.take, List.drop, List.set, ev, nth, List.nil_append, List.cons_append, md, Nat.reducePow, Nat.reduceAdd, Nat.reduceMul]
      refine WL_det rfl (Det.bv false (det_gtr (q := 30) rfl rfl) (decide_eq_false h1)) ?_
      dsimp only [put, List.take, List.drop, List.set, ev, nth, List.nil_append, List.cons_append, md, Nat.reducePow, Nat.reduceAdd, Nat.reduceMul]
      refine WL_det rfl (det_move) ?_
      dsimp only [put, List.take, List.drop, List.set, ev, nth, List.nil_append, List.cons_append, md, Nat.reducePow, Nat.reduceAdd, Nat.reduceMul]
      refine WL_detG rfl (det_move) ?_
      dsimp only [put, List.take, List.drop, List.set, ev, nth, List.nil_append, List.cons_append, md, Nat.reducePow, Nat.reduceAdd, Nat.reduceMul]
      refine WL_detG rfl (det_lenQ Try.underlying71 rfl (fun w hw => RdQ.far hw hT)) ?_
      dsimp only [put, List.take, List.drop, List.set, ev, nth, List.nil_append, List.cons_append, md, Nat.reducePow, Nat.reduceAdd, Nat.reduceMul]
      refine WL_detG rfl (Det.bv false (det_gtr (q := 30) rfl rfl) (decide_eq_false h2)) ?_
      dsimp only [put, List.take, List.drop, List.set, ev, nth, List.nil_append, List.cons_append, md, Nat.reducePow, Nat.reduceAdd, Nat.reduceMul]
      refine WL_det rfl (det_pick_false rfl) ?_
      dsimp only [put, List.take, List.drop, List.set, ev, nth, List.nil_append, List.cons_append, md, Nat.reducePow, Nat.reduceAdd, Nat.reduceMul]
      refine WL_nil ?_
      refine WC_cond_false rfl ?_
      refine WC_skip ?_
      refine WC_seq ?_
      refine WC_region ?_
      refine WL_det rfl (det_move) ?_
      dsimp only [put, List.take, List.drop, List.set, ev, nth, List.nil_append, List.cons_append, md, Nat.reducePow, Nat.reduceAdd, Nat.reduceMul]
      refine WL_chg rfl (Chg_call rfl Try.call24 (fun w hw => graph_spec L va (by omega) hw hL)) ?_
      rintro _ _ ⟨M, ⟨gb, rfl, hM⟩, rfl⟩
      have hol := once_len L
      dsimp only [put, setM, List.zip, List.zipWith, List.take, List.drop, List.append_nil, List.set, ev, nth, List.nil_append, List.cons_append, md, Nat.reducePow, Nat.reduceAdd, Nat.reduceMul]
      refine WL_relAt 0 rfl (Rel_call rfl Try.call34 (fun w hw => order_spec gb _ (by omega) w (hM.facts hw))) ?_
      rintro _ _ ⟨v8, e8, rfl, h8, rfl⟩
      dsimp only [put, List.append_nil, List.take, List.drop, List.set, ev, nth, List.nil_append, List.cons_append, md, Nat.reducePow, Nat.reduceAdd, Nat.reduceMul]
      try simp only [List.append_nil]
      refine WL_det rfl (det_move) ?_
      dsimp only [put, List.take, List.drop, List.set, ev, nth, List.nil_append, List.cons_append, md, Nat.reducePow, Nat.reduceAdd, Nat.reduceMul]
      refine WL_det rfl (det_extract rfl rfl) ?_
      dsimp only [put, List.take, List.drop, List.set, ev, nth, List.nil_append, List.cons_append, md, Nat.reducePow, Nat.reduceAdd, Nat.reduceMul]
      refine WL_det rfl (det_extract rfl rfl) ?_
      dsimp only [put, List.take, List.drop, List.set, ev, nth, List.nil_append, List.cons_append, md, Nat.reducePow, Nat.reduceAdd, Nat.reduceMul]
      refine WL_det rfl (det_assign) ?_
      dsimp only [put, List.take, List.drop, List.set, ev, nth, List.nil_append, List.cons_append, md, Nat.reducePow, Nat.reduceAdd, Nat.reduceMul]
      refine WL_det rfl (det_assign) ?_
      dsimp only [put, List.take, List.drop, List.set, ev, nth, List.nil_append, List.cons_append, md, Nat.reducePow, Nat.reduceAdd, Nat.reduceMul]
      refine WL_nil ?_
      refine WC_seq ?_
      refine WC_region ?_
      refine WL_det rfl (det_move) ?_
      dsimp only [put, List.take, List.drop, List.set, ev, nth, List.nil_append, List.cons_append, md, Nat.reducePow, Nat.reduceAdd, Nat.reduceMul]
      refine WL_relAt 1 rfl (Rel_call rfl Try.call29 (fun w hw => once_spec L va (by omega) w (RdP.far hw hL))) ?_
      rintro v65 _ ⟨e65, h65, rfl⟩
      dsimp only [put, List.append_nil, List.take, List.drop, List.set, ev, nth, List.nil_append, List.cons_append, md, Nat.reducePow, Nat.reduceAdd, Nat.reduceMul]
      try simp only [List.append_nil]
      refine WL_relAt 2 rfl (Rel_call rfl Try.call35 (fun w hw => rorder_spec _ v65 (by omega) w (RowP.rd hw 1 rfl h65))) ?_
      rintro _ _ ⟨v10, e10, rfl, h10, rfl⟩
      dsimp only [put, List.append_nil, List.take, List.drop, List.set, ev, nth, List.nil_append, List.cons_append, md, Nat.reducePow, Nat.reduceAdd, Nat.reduceMul]
      try simp only [List.append_nil]
      refine WL_det rfl (det_move) ?_
      dsimp only [put, List.take, List.drop, List.set, ev, nth, List.nil_append, List.cons_append, md, Nat.reducePow, Nat.reduceAdd, Nat.reduceMul]
      refine WL_det rfl (det_extract rfl rfl) ?_
      dsimp only [put, List.take, List.drop, List.set, ev, nth, List.nil_append, List.cons_append, md, Nat.reducePow, Nat.reduceAdd, Nat.reduceMul]
      refine WL_det rfl (det_extract rfl rfl) ?_
      dsimp only [put, List.take, List.drop, List.set, ev, nth, List.nil_append, List.cons_append, md, Nat.reducePow, Nat.reduceAdd, Nat.reduceMul]
      refine WL_det rfl (det_assign) ?_
      dsimp only [put, List.take, List.drop, List.set, ev, nth, List.nil_append, List.cons_append, md, Nat.reducePow, Nat.reduceAdd, Nat.reduceMul]
      refine WL_det rfl (det_assign) ?_
      dsimp only [put, List.take, List.drop, List.set, ev, nth, List.nil_append, List.cons_append, md, Nat.reducePow, Nat.reduceAdd, Nat.reduceMul]
      refine WL_nil ?_
      refine WC_seq ?_
      refine WC_seq ?_
      refine WC_region ?_
      refine WL_det rfl (det_move) ?_
      dsimp only [put, List.take, List.drop, List.set, ev, nth, List.nil_append, List.cons_append, md, Nat.reducePow, Nat.reduceAdd, Nat.reduceMul]
      refine WL_det rfl (det_move) ?_
      dsimp only [put, List.take, List.drop, List.set, ev, nth, List.nil_append, List.cons_append, md, Nat.reducePow, Nat.reduceAdd, Nat.reduceMul]
      refine WL_det rfl (Det.bv false (det_neqB rfl rfl Try.underlying4) (by simp)) ?_
      dsimp only [put, List.take, List.drop, List.set, ev, nth, List.nil_append, List.cons_append, md, Nat.reducePow, Nat.reduceAdd, Nat.reduceMul]
      refine WL_det rfl (det_move) ?_
      dsimp only [put, List.take, List.drop, List.set, ev, nth, List.nil_append, List.cons_append, md, Nat.reducePow, Nat.reduceAdd, Nat.reduceMul]
      refine WL_detG rfl (det_move) ?_
      dsimp only [put, List.take, List.drop, List.set, ev, nth, List.nil_append, List.cons_append, md, Nat.reducePow, Nat.reduceAdd, Nat.reduceMul]
      refine WL_detG rfl (det_move) ?_
      dsimp only [put, List.take, List.drop, List.set, ev, nth, List.nil_append, List.cons_append, md, Nat.reducePow, Nat.reduceAdd, Nat.reduceMul]
      refine WL_relG rfl (Rel_call rfl Try.call21 (fun w hw => ints_same (ordE (onceE L)).1 v8 v10 (by have := ordE_len (onceE L); omega) w (RdL.z (RowO.rd hw 0 rfl h8)) (RdL.z (RowO.rd hw 2 rfl h10)))) ?_
      rintro _ _ ⟨rfl, rfl⟩
      dsimp only [put, List.append_nil, List.set, ev, nth, List.nil_append, List.cons_append, md, Nat.reducePow, Nat.reduceAdd, Nat.reduceMul]
      try simp only [List.append_nil]
      refine WL_detG rfl (Det.bv false (det_not rfl) (rfl)) ?_
      dsimp only [put, List.take, List.drop, List.set, ev, nth, List.nil_append, List.cons_append, md, Nat.reducePow, Nat.reduceAdd, Nat.reduceMul]
      refine WL_det rfl (det_pick_false rfl) ?_
      dsimp only [put, List.take, List.drop, List.set, ev, nth, List.nil_append, List.cons_append, md, Nat.reducePow, Nat.reduceAdd, Nat.reduceMul]
      refine WL_nil ?_
      refine WC.forget (m' := m0) (List.sublist_append_right (_ :: _ :: _ :: M) m0) ?_
      clear hM
      refine WC_cond_false rfl ?_
      refine WC_skip ?_
      refine WC_seq ?_
      refine WC_region ?_
      refine WL_relAt 0 rfl (Rel_call rfl Try.call36 (fun w hw => newT_spec w)) ?_
      rintro _ _ ⟨gs, ms, rfl, rfl⟩
      dsimp only [put, List.append_nil, List.take, List.drop, List.set, ev, nth, List.nil_append, List.cons_append, md, Nat.reducePow, Nat.reduceAdd, Nat.reduceMul]
      try simp only [List.append_nil]
      refine WL_det rfl (det_assign) ?_
      dsimp only [put, List.take, List.drop, List.set, ev, nth, List.nil_append, List.cons_append, md, Nat.reducePow, Nat.reduceAdd, Nat.reduceMul]
      refine WL_nil ?_
      refine WC.addNoneAt 2 (.cells #[] 9 (0, 0)) ?_
      refine WC.addNoneAt 3 (.cells #[] 43 (0, 0)) ?_
      dsimp only [List.take, List.drop, List.cons_append, List.nil_append]
      refine WC.perm (m' := ((some gs, .cells #[.map (some ms), .slice none 0 0, .slice none 0 0, vn .i64 0] 107 (0, 0)) :: (some ms, .map #[] 0) :: (none, .cells #[] 9 (0, 0)) :: (none, .cells #[] 43 (0, 0)) :: []) ++ m0) (List.Perm.swap _ _ _) ?_
      have hM0 := GR.nil strK 9 107 gs ms
      generalize ((some gs, Obj.cells #[Value.map (some ms), .slice none 0 0, .slice none 0 0, vn .i64 0] 107 (0, 0)) :: (some ms, Obj.map #[] 0) :: (none, Obj.cells #[] 9 (0, 0)) :: (none, Obj.cells #[] 43 (0, 0)) :: [] : Mem) = Mi at hM0 ⊢
      refine WC_seq ?_
      refine WC_seq ?_
      refine WC_region ?_
      refine WL_det rfl (det_move) ?_
      dsimp only [put, List.take, List.drop, List.set, ev, nth, List.nil_append, List.cons_append, md, Nat.reducePow, Nat.reduceAdd, Nat.reduceMul]
      refine WL_det rfl (det_lenQ Try.underlying71 rfl (fun w hw => RdQ.far hw hT)) ?_
      dsimp only [put, List.take, List.drop, List.set, ev, nth, List.nil_append, List.cons_append, md, Nat.reducePow, Nat.reduceAdd, Nat.reduceMul]
      refine WL_det rfl (det_move) ?_
      dsimp only [put, List.take, List.drop, List.set, ev, nth, List.nil_append, List.cons_append, md, Nat.reducePow, Nat.reduceAdd, Nat.reduceMul]
      refine WL_nil ?_
      refine WC_block ?_
      refine WC_loopF (ι := Nat × Mem) [82, 83, 84, 14, 85, 86, 87, 88, 89, 90, 91, 4, 92] (fun x => [(81, vn .i64 (x.1))]) (fun x => x.2 ++ m0) (fun x => x.1 ≤ T.length ∧ GR strK 9 107 gs (onceE (T.take x.1)) x.2) (fun x => T.length - x.1) (0, Mi) ?_ ?_ ?_ ?_
      · rfl
      · rfl
      · exact ⟨Nat.zero_le _, hM0⟩
      · rintro ⟨k, M⟩ g' ⟨hk, hM⟩
        dsimp only [setAll, setG, setM, List.set]
        dsimp only at hk hM
        refine WC_seq ?_
        refine WC_region ?_
        refine WL_det rfl (det_lss rfl rfl) ?_
        dsimp only [put, List.take, List.drop, List.set, ev, nth, List.nil_append, List.cons_append, md, Nat.reducePow, Nat.reduceAdd, Nat.reduceMul]
        refine WL_nil ?_
        refine WC_seq ?_
        refine WC_cond rfl (fun hc4 => ?_) (fun hc4 => ?_)
        · have hc4 := of_decide_eq_true hc4
          refine WC_skip ?_
          refine WC_seq ?_
          refine WC_block ?_
          refine WC_seq ?_
          refine WC_region ?_
          refine WL_det rfl (det_idxQ Try.underlying71 Try.sizeOf76 rfl rfl (rfl) (by omega) (fun w hw => RdQ.far hw hT)) ?_
          dsimp only [put, List.take, List.drop, List.set, ev, nth, List.nil_append, List.cons_append, md, Nat.reducePow, Nat.reduceAdd, Nat.reduceMul]
          refine WL_det rfl (det_loadQ Try.underlying76 rfl i76 rfl (fun w hw => RdQ.far hw hT) (by omega)) ?_
          dsimp only [put, List.take, List.drop, List.set, ev, nth, List.nil_append, List.cons_append, md, Nat.reducePow, Nat.reduceAdd, Nat.reduceMul]
          refine WL_relAt 0 rfl (rel_alloc Try.zeroValue76 rfl) ?_
          rintro _ _ ⟨b0, rfl, rfl⟩
          dsimp only [put, List.take, List.drop, List.set, ev, nth, List.nil_append, List.cons_append, md, Nat.reducePow, Nat.reduceAdd, Nat.reduceMul]
          refine WL_chg rfl (chg_storeWn 0 _ rfl rfl rfl Try.sizeOf76 rfl rfl rfl (pkS_one _)) ?_
          rintro _ _ rfl
          dsimp only [put, List.take, List.drop, List.set, ev, nth, List.nil_append, List.cons_append, md, Nat.reducePow, Nat.reduceAdd, Nat.reduceMul]
          refine WL_nil ?_
          refine WC_seq ?_
          refine WC_region ?_
          refine WL_det rfl (det_move) ?_
          dsimp only [put, List.take, List.drop, List.set, ev, nth, List.nil_append, List.cons_append, md, Nat.reducePow, Nat.reduceAdd, Nat.reduceMul]
          refine WL_det rfl (det_idxA (j := 0) Try.underlying76 Try.sizeOf9 rfl rfl (rfl) (by omega)) ?_
          dsimp only [put, List.take, List.drop, List.set, ev, nth, List.nil_append, List.cons_append, md, Nat.reducePow, Nat.reduceAdd, Nat.reduceMul]
          refine WL_det rfl (det_load 0 Try.isAgg9 rfl rfl rfl) ?_
          dsimp only [put, List.take, List.drop, List.set, ev, nth, List.nil_append, List.cons_append, md, Nat.reducePow, Nat.reduceAdd, Nat.reduceMul]
          refine WL_det rfl (det_idxA (j := 1) Try.underlying76 Try.sizeOf9 rfl rfl (rfl) (by omega)) ?_
          dsimp only [put, List.take, List.drop, List.set, ev, nth, List.nil_append, List.cons_append, md, Nat.reducePow, Nat.reduceAdd, Nat.reduceMul]
          refine WL_det rfl (det_load 0 Try.isAgg9 rfl rfl rfl) ?_
          dsimp only [put, List.take, List.drop, List.set, ev, nth, List.nil_append, List.cons_append, md, Nat.reducePow, Nat.reduceAdd, Nat.reduceMul]
          refine WL_chg rfl (Chg_callT [_] _ _ rfl Try.call37 rfl (fun w mm hw => edgeGS hM (by have := once_len (T.take k); rw [List.length_take] at this; omega) _ _ w mm hw)) ?_
          rintro _ _ ⟨M1, ⟨rfl, hM1⟩, rfl⟩
          dsimp only [put, setM, List.zip, List.zipWith, List.take, List.drop, List.append_nil, List.set, ev, nth, List.nil_append, List.cons_append, md, Nat.reducePow, Nat.reduceAdd, Nat.reduceMul]
          refine WL_det rfl (Det.bv false (det_neq (q := 0) rfl rfl) (by decide)) ?_
          dsimp only [put, List.take, List.drop, List.set, ev, nth, List.nil_append, List.cons_append, md, Nat.reducePow, Nat.reduceAdd, Nat.reduceMul]
          refine WL_nil ?_
          refine WC.forget (.cons _ (List.Sublist.refl _)) ?_
          refine WC_cond_false rfl ?_
          refine WC_skip ?_
          refine WC_region ?_
          refine WL_det rfl (det_addi (q := 1) rfl rfl (by omega)) ?_
          dsimp only [put, List.take, List.drop, List.set, ev, nth, List.nil_append, List.cons_append, md, Nat.reducePow, Nat.reduceAdd, Nat.reduceMul]
          refine WL_det rfl (det_move) ?_
          dsimp only [put, List.take, List.drop, List.set, ev, nth, List.nil_append, List.cons_append, md, Nat.reducePow, Nat.reduceAdd, Nat.reduceMul]
          refine WL_nil ?_
          refine ⟨(k + 1, M1), ?_, ?_, ?_, ?_⟩
          · rfl
          · rfl
          · exact ⟨by dsimp only; omega, by rw [once_takeG (by omega) (str0, str0)]; exact hM1⟩
          · dsimp only; omega
        · have hc4 := of_decide_eq_false hc4
          obtain rfl : k = T.length := by omega
          rw [List.take_length] at hM
          have hoT := once_len T
          refine WC_exit ?_
          refine inB_same ?_
          refine WC_seq ?_
          refine WC_region ?_
          refine WL_det rfl (det_move) ?_
          dsimp only [put, List.take, List.drop, List.set, ev, nth, List.nil_append, List.cons_append, md, Nat.reducePow, Nat.reduceAdd, Nat.reduceMul]
          refine WL_relAt 0 rfl (rel_lit1 Try.underlying22 Try.zeroValue9 Try.sizeOf9 rfl rfl) ?_
          rintro _ _ ⟨bl, rfl, rfl⟩
          dsimp only [put, List.take, List.drop, List.set, ev, nth, List.nil_append, List.cons_append, md, Nat.reducePow, Nat.reduceAdd, Nat.reduceMul]
          refine WL_relAt 1 rfl (Rel_call rfl Try.call38 (fun w hw => reachS_spec gs _ [strA] _ (by omega) (by decide) w (hM.facts (Has.dropN hw 1)) (sv_rd1 hw 0 rfl))) ?_
          rintro v15 _ ⟨e15, h15, rfl⟩
          have hfirst := srch_first (onceE T) strA str0
          have hlA := srch_len (onceE T) [strA]
          rw [List.length_singleton] at hlA
          have hcl : ∀ x ∈ (srch (onceE T) [strA]).map Prod.fst, ∀ e ∈ T, e.1 = x → e.2 ∈ (srch (onceE T) [strA]).map Prod.fst := fun x hx e he h => mem_srch.2 (.step (mem_srch.1 hx) (mem_once.2 (by rw [← h]; exact he)))
          obtain ⟨A, hA⟩ : ∃ A, A = (srch (onceE T) [strA]).map Prod.fst := ⟨_, rfl⟩
          rw [← hA] at h15 hfirst hlA hcl
          dsimp only [put, List.append_nil, List.take, List.drop, List.set, ev, nth, List.nil_append, List.cons_append, md, Nat.reducePow, Nat.reduceAdd, Nat.reduceMul]
          try simp only [List.append_nil]
          refine WL_det rfl (det_assign) ?_
          dsimp only [put, List.take, List.drop, List.set, ev, nth, List.nil_append, List.cons_append, md, Nat.reducePow, Nat.reduceAdd, Nat.reduceMul]
          refine WL_nil ?_
          refine WC.forget (.cons _ (.cons_cons _ (List.Sublist.refl _))) ?_
          refine WC_seq ?_
          refine WC_seq ?_
          refine WC_region ?_
          refine WL_det rfl (det_move) ?_
          dsimp only [put, List.take, List.drop, List.set, ev, nth, List.nil_append, List.cons_append, md, Nat.reducePow, Nat.reduceAdd, Nat.reduceMul]
          refine WL_det rfl (det_lenR Try.underlying22 rfl (fun w hw => RowO.rd hw 0 rfl h15) (sv_len A)) ?_
          dsimp only [put, List.take, List.drop, List.set, ev, nth, List.nil_append, List.cons_append, md, Nat.reducePow, Nat.reduceAdd, Nat.reduceMul]
          refine WL_det rfl (det_move) ?_
          dsimp only [put, List.take, List.drop, List.set, ev, nth, List.nil_append, List.cons_append, md, Nat.reducePow, Nat.reduceAdd, Nat.reduceMul]
          refine WL_nil ?_
          refine WC_block ?_
          refine WC_loopS (ι := Nat) [99, 100, 101, 102, 16, 17, 104, 105, 106, 107, 103, 108, 109, 18, 19, 110, 111, 112, 113, 114, 115, 116, 117, 118, 119, 120, 121, 122, 123, 124, 125, 126, 127, 128, 129, 130, 131, 132, 133, 134, 135, 4, 136, 137, 138, 139, 140, 141, 21, 142, 143, 144, 145, 22, 146, 147, 148, 149, 150, 151, 24, 152, 153, 154, 155, 156, 157, 158, 159, 160, 161, 162, 163] (fun k => [(98, vn .i64 (k))]) (fun k => []) (fun k => k ≤ A.length) (fun k => A.length - k) 0 ?_ ?_ ?_ ?_
          · rfl
          · rfl
          · exact Nat.zero_le _
          · rintro k g' hk
            dsimp only [setAll, setG, setM, List.set]
            refine WC_seq ?_
            refine WC_region ?_
            refine WL_det rfl (det_lss rfl rfl) ?_
            dsimp only [put, List.take, List.drop, List.set, ev, nth, List.nil_append, List.cons_append, md, Nat.reducePow, Nat.reduceAdd, Nat.reduceMul]
            refine WL_nil ?_
            refine WC_seq ?_
            refine WC_cond rfl (fun hc6 => ?_) (fun hc6 => ?_)
            · have hc6 := of_decide_eq_true hc6
              have hto : (A.getD k str0) ∈ A := getD_memG (by omega) str0
              have hok := path_ok (es := onceE T) (F := [strA]) (to := (A.getD k str0)) str0 (hA ▸ hto)
              have hpl := path_lenG (es := onceE T) (F := [strA]) (to := (A.getD k str0)) (hA ▸ hto)
              rw [List.length_singleton] at hpl
              refine WC_skip ?_
              refine WC_seq ?_
              refine WC_block ?_
              refine WC_seq ?_
              refine WC_region ?_
              refine WL_det rfl (det_move) ?_
              dsimp only [put, List.take, List.drop, List.set, ev, nth, List.nil_append, List.cons_append, md, Nat.reducePow, Nat.reduceAdd, Nat.reduceMul]
              refine WL_det rfl (det_idxR Try.underlying22 Try.sizeOf9 rfl rfl (rfl) (by rw [sv_len]; omega) (fun w hw => RowO.rd hw 0 rfl h15)) ?_
              dsimp only [put, List.take, List.drop, List.set, ev, nth, List.nil_append, List.cons_append, md, Nat.reducePow, Nat.reduceAdd, Nat.reduceMul]
              refine WL_det rfl (det_loadR Try.isAgg9 rfl (fun w hw => RowO.rd hw 0 rfl h15) (sv_at A (by omega))) ?_
              dsimp only [put, List.take, List.drop, List.set, ev, nth, List.nil_append, List.cons_append, md, Nat.reducePow, Nat.reduceAdd, Nat.reduceMul]
              refine WL_det rfl (det_assign) ?_
              dsimp only [put, List.take, List.drop, List.set, ev, nth, List.nil_append, List.cons_append, md, Nat.reducePow, Nat.reduceAdd, Nat.reduceMul]
              refine WL_det rfl (det_assign) ?_
              dsimp only [put, List.take, List.drop, List.set, ev, nth, List.nil_append, List.cons_append, md, Nat.reducePow, Nat.reduceAdd, Nat.reduceMul]
              refine WL_nil ?_
              refine WC_seq ?_
              refine WC_region ?_
              refine WL_det rfl (det_move) ?_
              dsimp only [put, List.take, List.drop, List.set, ev, nth, List.nil_append, List.cons_append, md, Nat.reducePow, Nat.reduceAdd, Nat.reduceMul]
              refine WL_det rfl (det_move) ?_
              dsimp only [put, List.take, List.drop, List.set, ev, nth, List.nil_append, List.cons_append, md, Nat.reducePow, Nat.reduceAdd, Nat.reduceMul]
              refine WL_relAt 1 rfl (rel_lit1 Try.underlying22 Try.zeroValue9 Try.sizeOf9 rfl rfl) ?_
              rintro _ _ ⟨bl, rfl, rfl⟩
              dsimp only [put, List.take, List.drop, List.set, ev, nth, List.nil_append, List.cons_append, md, Nat.reducePow, Nat.reduceAdd, Nat.reduceMul]
              refine WL_relAt 2 rfl (Rel_call rfl Try.call39 (fun w hw => pathS_yes gs _ [strA] _ (A.getD k str0) (by omega) (by decide) (hA ▸ hto) w (hM.facts (Has.dropN hw 2)) (sv_rd1 hw 1 rfl))) ?_
              rintro _ _ ⟨v18, e18, rfl, h18, rfl⟩
              generalize pathA (srch (onceE T) [strA]) (((srch (onceE T) [strA]).map Prod.fst).idxOf (A.getD k str0)) = p at *
              have hpos := hok.pos
              dsimp only [put, List.append_nil, List.take, List.drop, List.set, ev, nth, List.nil_append, List.cons_append, md, Nat.reducePow, Nat.reduceAdd, Nat.reduceMul]
              try simp only [List.append_nil]
              refine WL_det rfl (det_move) ?_
              dsimp only [put, List.take, List.drop, List.set, ev, nth, List.nil_append, List.cons_append, md, Nat.reducePow, Nat.reduceAdd, Nat.reduceMul]
              refine WL_det rfl (det_extract rfl rfl) ?_
              dsimp only [put, List.take, List.drop, List.set, ev, nth, List.nil_append, List.cons_append, md, Nat.reducePow, Nat.reduceAdd, Nat.reduceMul]
              refine WL_det rfl (det_extract rfl rfl) ?_
              dsimp only [put, List.take, List.drop, List.set, ev, nth, List.nil_append, List.cons_append, md, Nat.reducePow, Nat.reduceAdd, Nat.reduceMul]
              refine WL_det rfl (det_assign) ?_
              dsimp only [put, List.take, List.drop, List.set, ev, nth, List.nil_append, List.cons_append, md, Nat.reducePow, Nat.reduceAdd, Nat.reduceMul]
              refine WL_det rfl (det_assign) ?_
              dsimp only [put, List.take, List.drop, List.set, ev, nth, List.nil_append, List.cons_append, md, Nat.reducePow, Nat.reduceAdd, Nat.reduceMul]
              refine WL_nil ?_
              refine WC_seq ?_
              refine WC_seq ?_
              by_cases hk0 : k = 0
              · refine WC_region ?_
                refine WL_det rfl (det_move) ?_
                dsimp only [put, List.take, List.drop, List.set, ev, nth, List.nil_append, List.cons_append, md, Nat.reducePow, Nat.reduceAdd, Nat.reduceMul]
                refine WL_det rfl (Det.bv false (det_not rfl) (rfl)) ?_
                dsimp only [put, List.take, List.drop, List.set, ev, nth, List.nil_append, List.cons_append, md, Nat.reducePow, Nat.reduceAdd, Nat.reduceMul]
                refine WL_det rfl (det_move) ?_
                dsimp only [put, List.take, List.drop, List.set, ev, nth, List.nil_append, List.cons_append, md, Nat.reducePow, Nat.reduceAdd, Nat.reduceMul]
                refine WL_detG rfl (det_move) ?_
                dsimp only [put, List.take, List.drop, List.set, ev, nth, List.nil_append, List.cons_append, md, Nat.reducePow, Nat.reduceAdd, Nat.reduceMul]
                refine WL_detG rfl (det_idxR (j := 0) Try.underlying22 Try.sizeOf9 rfl rfl (rfl) (by rw [sv_len]; exact hpos) (fun w hw => RowO.rd hw 2 rfl h18)) ?_
                dsimp only [put, List.take, List.drop, List.set, ev, nth, List.nil_append, List.cons_append, md, Nat.reducePow, Nat.reduceAdd, Nat.reduceMul]
                refine WL_detG rfl (det_loadR Try.isAgg9 rfl (fun w hw => RowO.rd hw 2 rfl h18) (sv_at p (hpos))) ?_
                dsimp only [put, List.take, List.drop, List.set, ev, nth, List.nil_append, List.cons_append, md, Nat.reducePow, Nat.reduceAdd, Nat.reduceMul]
                refine WL_detG rfl (Det.bv false (det_neqStr rfl rfl) (strN (List.mem_singleton.1 hok.first))) ?_
                dsimp only [put, List.take, List.drop, List.set, ev, nth, List.nil_append, List.cons_append, md, Nat.reducePow, Nat.reduceAdd, Nat.reduceMul]
                refine WL_det rfl (det_pick_false rfl) ?_
                dsimp only [put, List.take, List.drop, List.set, ev, nth, List.nil_append, List.cons_append, md, Nat.reducePow, Nat.reduceAdd, Nat.reduceMul]
                refine WL_det rfl (det_move) ?_
                dsimp only [put, List.take, List.drop, List.set, ev, nth, List.nil_append, List.cons_append, md, Nat.reducePow, Nat.reduceAdd, Nat.reduceMul]
                refine WL_detG rfl (det_move) ?_
                dsimp only [put, List.take, List.drop, List.set, ev, nth, List.nil_append, List.cons_append, md, Nat.reducePow, Nat.reduceAdd, Nat.reduceMul]
                refine WL_detG rfl (det_move) ?_
                dsimp only [put, List.take, List.drop, List.set, ev, nth, List.nil_append, List.cons_append, md, Nat.reducePow, Nat.reduceAdd, Nat.reduceMul]
                refine WL_detG rfl (det_lenR Try.underlying22 rfl (fun w hw => RowO.rd hw 2 rfl h18) (sv_len p)) ?_
                dsimp only [put, List.take, List.drop, List.set, ev, nth, List.nil_append, List.cons_append, md, Nat.reducePow, Nat.reduceAdd, Nat.reduceMul]
                refine WL_detG rfl (det_subi (q := 1) rfl rfl (by omega) (by omega)) ?_
                dsimp only [put, List.take, List.drop, List.set, ev, nth, List.nil_append, List.cons_append, md, Nat.reducePow, Nat.reduceAdd, Nat.reduceMul]
                refine WL_detG rfl (det_idxR Try.underlying22 Try.sizeOf9 rfl rfl (rfl) (by rw [sv_len]; omega) (fun w hw => RowO.rd hw 2 rfl h18)) ?_
                dsimp only [put, List.take, List.drop, List.set, ev, nth, List.nil_append, List.cons_append, md, Nat.reducePow, Nat.reduceAdd, Nat.reduceMul]
                refine WL_detG rfl (det_loadR Try.isAgg9 rfl (fun w hw => RowO.rd hw 2 rfl h18) (sv_at p (by omega))) ?_
                dsimp only [put, List.take, List.drop, List.set, ev, nth, List.nil_append, List.cons_append, md, Nat.reducePow, Nat.reduceAdd, Nat.reduceMul]
                refine WL_detG rfl (det_move) ?_
                dsimp only [put, List.take, List.drop, List.set, ev, nth, List.nil_append, List.cons_append, md, Nat.reducePow, Nat.reduceAdd, Nat.reduceMul]
                refine WL_detG rfl (Det.bv false (det_neqStr rfl rfl) (strN hok.last)) ?_
                dsimp only [put, List.take, List.drop, List.set, ev, nth, List.nil_append, List.cons_append, md, Nat.reducePow, Nat.reduceAdd, Nat.reduceMul]
                refine WL_det rfl (det_pick_false rfl) ?_
                dsimp only [put, List.take, List.drop, List.set, ev, nth, List.nil_append, List.cons_append, md, Nat.reducePow, Nat.reduceAdd, Nat.reduceMul]
                refine WL_det rfl (det_move) ?_
                dsimp only [put, List.take, List.drop, List.set, ev, nth, List.nil_append, List.cons_append, md, Nat.reducePow, Nat.reduceAdd, Nat.reduceMul]
                refine WL_detG rfl (det_move) ?_
                dsimp only [put, List.take, List.drop, List.set, ev, nth, List.nil_append, List.cons_append, md, Nat.reducePow, Nat.reduceAdd, Nat.reduceMul]
                refine WL_detG rfl (Det.bv true (det_eql (q := 0) rfl rfl) (decide_eq_true hk0)) ?_
                dsimp only [put, List.take, List.drop, List.set, ev, nth, List.nil_append, List.cons_append, md, Nat.reducePow, Nat.reduceAdd, Nat.reduceMul]
                refine WL_detG rfl (det_move) ?_
                dsimp only [put, List.take, List.drop, List.set, ev, nth, List.nil_append, List.cons_append, md, Nat.reducePow, Nat.reduceAdd, Nat.reduceMul]
                refine WL_detG rfl (det_move) ?_
                dsimp only [put, List.take, List.drop, List.set, ev, nth, List.nil_append, List.cons_append, md, Nat.reducePow, Nat.reduceAdd, Nat.reduceMul]
                refine WL_detG rfl (Det.bv false (det_neqStr rfl rfl) (strN (by rw [hk0]; exact hfirst.2))) ?_
                dsimp only [put, List.take, List.drop, List.set, ev, nth, List.nil_append, List.cons_append, md, Nat.reducePow, Nat.reduceAdd, Nat.reduceMul]
                refine WL_detG rfl (det_pick_true rfl) ?_
                dsimp only [put, List.take, List.drop, List.set, ev, nth, List.nil_append, List.cons_append, md, Nat.reducePow, Nat.reduceAdd, Nat.reduceMul]
                refine WL_det rfl (det_pick_false rfl) ?_
                dsimp only [put, List.take, List.drop, List.set, ev, nth, List.nil_append, List.cons_append, md, Nat.reducePow, Nat.reduceAdd, Nat.reduceMul]
                refine WL_nil ?_
                refine WC.forget (.cons_cons _ (.cons _ (.cons _ (List.Sublist.refl _)))) ?_
                refine WC_cond_false rfl ?_
                refine WC_skip ?_
                refine WC_seq ?_
                refine WC_region ?_
                refine WL_det rfl (det_move) ?_
                dsimp only [put, List.take, List.drop, List.set, ev, nth, List.nil_append, List.cons_append, md, Nat.reducePow, Nat.reduceAdd, Nat.reduceMul]
                refine WL_det rfl (det_lenQ Try.underlying71 rfl (fun w hw => RdQ.far hw hT)) ?_
                dsimp only [put, List.take, List.drop, List.set, ev, nth, List.nil_append, List.cons_append, md, Nat.reducePow, Nat.reduceAdd, Nat.reduceMul]
                refine WL_det rfl (det_move) ?_
                dsimp only [put, List.take, List.drop, List.set, ev, nth, List.nil_append, List.cons_append, md, Nat.reducePow, Nat.reduceAdd, Nat.reduceMul]
                refine WL_nil ?_
                refine WC_block ?_
                refine WC_loopS (ι := Nat) [139, 140, 141, 21, 142, 143, 144, 145, 22, 146, 147, 148, 149, 150, 151, 24, 152, 153, 154, 155, 156, 157, 158, 159, 160, 161, 4, 162] (fun q => [(138, vn .i64 (q))]) (fun q => []) (fun q => q ≤ T.length) (fun q => T.length - q) 0 ?_ ?_ ?_ ?_
                · rfl
                · rfl
                · exact Nat.zero_le _
                · rintro q g'' hq
                  dsimp only [setAll, setG, setM, List.set]
                  refine WC_seq ?_
                  refine WC_region ?_
                  refine WL_det rfl (det_lss rfl rfl) ?_
                  dsimp only [put, List.take, List.drop, List.set, ev, nth, List.nil_append, List.cons_append, md, Nat.reducePow, Nat.reduceAdd, Nat.reduceMul]
                  refine WL_nil ?_
                  refine WC_seq ?_
                  refine WC_cond rfl (fun hc8 => ?_) (fun hc8 => ?_)
                  · have hc8 := of_decide_eq_true hc8
                    refine WC_skip ?_
                    refine WC_seq ?_
                    refine WC_block ?_
                    refine WC_seq ?_
                    refine WC_region ?_
                    refine WL_det rfl (det_idxQ Try.underlying71 Try.sizeOf76 rfl rfl (rfl) (by omega) (fun w hw => RdQ.far hw hT)) ?_
                    dsimp only [put, List.take, List.drop, List.set, ev, nth, List.nil_append, List.cons_append, md, Nat.reducePow, Nat.reduceAdd, Nat.reduceMul]
                    refine WL_det rfl (det_loadQ Try.underlying76 rfl i76 rfl (fun w hw => RdQ.far hw hT) (by omega)) ?_
                    dsimp only [put, List.take, List.drop, List.set, ev, nth, List.nil_append, List.cons_append, md, Nat.reducePow, Nat.reduceAdd, Nat.reduceMul]
                    refine WL_relAt 1 rfl (rel_alloc Try.zeroValue76 rfl) ?_
                    rintro _ _ ⟨b1, rfl, rfl⟩
                    dsimp only [put, List.take, List.drop, List.set, ev, nth, List.nil_append, List.cons_append, md, Nat.reducePow, Nat.reduceAdd, Nat.reduceMul]
                    refine WL_chg rfl (chg_storeWn 1 _ rfl rfl rfl Try.sizeOf76 rfl rfl rfl (pkS_one _)) ?_
                    rintro _ _ rfl
                    dsimp only [put, List.take, List.drop, List.set, ev, nth, List.nil_append, List.cons_append, md, Nat.reducePow, Nat.reduceAdd, Nat.reduceMul]
                    refine WL_nil ?_
                    refine WC_seq ?_
                    refine WC_seq ?_
                    refine WC_region ?_
                    refine WL_det rfl (det_idxA (j := 0) Try.underlying76 Try.sizeOf9 rfl rfl (rfl) (by omega)) ?_
                    dsimp only [put, List.take, List.drop, List.set, ev, nth, List.nil_append, List.cons_append, md, Nat.reducePow, Nat.reduceAdd, Nat.reduceMul]
                    refine WL_det rfl (det_load 1 Try.isAgg9 rfl rfl rfl) ?_
                    dsimp only [put, List.take, List.drop, List.set, ev, nth, List.nil_append, List.cons_append, md, Nat.reducePow, Nat.reduceAdd, Nat.reduceMul]
                    refine WL_det rfl (det_move) ?_
                    dsimp only [put, List.take, List.drop, List.set, ev, nth, List.nil_append, List.cons_append, md, Nat.reducePow, Nat.reduceAdd, Nat.reduceMul]
                    refine WL_det rfl (Det.bv (!decide ((T.getD q (str0, str0)).1 = (A.getD k str0))) (det_neqStr rfl rfl) (by rw [strE])) ?_
                    dsimp only [put, List.take, List.drop, List.set, ev, nth, List.nil_append, List.cons_append, md, Nat.reducePow, Nat.reduceAdd, Nat.reduceMul]
                    refine WL_nil ?_
                    refine WC_cond rfl (fun hc9 => ?_) (fun hc9 => ?_)
                    · refine WC_exit ?_
                      refine inB_same ?_
                      refine WC_region ?_
                      refine WL.forget (.cons_cons _ (.cons _ (List.Sublist.refl _))) ?_
                      refine WL_det rfl (det_addi (q := 1) rfl rfl (by omega)) ?_
                      dsimp only [put, List.take, List.drop, List.set, ev, nth, List.nil_append, List.cons_append, md, Nat.reducePow, Nat.reduceAdd, Nat.reduceMul]
                      refine WL_det rfl (det_move) ?_
                      dsimp only [put, List.take, List.drop, List.set, ev, nth, List.nil_append, List.cons_append, md, Nat.reducePow, Nat.reduceAdd, Nat.reduceMul]
                      refine WL_nil ?_
                      refine ⟨q + 1, ?_, ?_, ?_, ?_⟩
                      · rfl
                      · rfl
                      · omega
                      · omega
                    · have heq : (T.getD q (str0, str0)).1 = (A.getD k str0) := by simpa using hc9
                      have hin : (T.getD q (str0, str0)).2 ∈ A := hcl _ hto _ (getD_memG (by omega) _) heq
                      refine WC_skip ?_
                      refine WC_seq ?_
                      refine WC_region ?_
                      refine WL_det rfl (det_assign) ?_
                      dsimp only [put, List.take, List.drop, List.set, ev, nth, List.nil_append, List.cons_append, md, Nat.reducePow, Nat.reduceAdd, Nat.reduceMul]
                      refine WL_nil ?_
                      refine WC_seq ?_
                      refine WC_seq ?_
                      refine WC_region ?_
                      refine WL_det rfl (det_move) ?_
                      dsimp only [put, List.take, List.drop, List.set, ev, nth, List.nil_append, List.cons_append, md, Nat.reducePow, Nat.reduceAdd, Nat.reduceMul]
                      refine WL_det rfl (det_lenR Try.underlying22 rfl (fun w hw => RowO.rd hw 0 rfl h15) (sv_len A)) ?_
                      dsimp only [put, List.take, List.drop, List.set, ev, nth, List.nil_append, List.cons_append, md, Nat.reducePow, Nat.reduceAdd, Nat.reduceMul]
                      refine WL_det rfl (det_move) ?_
                      dsimp only [put, List.take, List.drop, List.set, ev, nth, List.nil_append, List.cons_append, md, Nat.reducePow, Nat.reduceAdd, Nat.reduceMul]
                      refine WL_nil ?_
                      refine WC_block ?_
                      refine WC_loopS (ι := Nat) [149, 150, 151, 24, 152, 153, 154, 155, 156, 157, 158, 159] (fun r => [(148, vn .i64 (r)), (22, .bool (decide ((T.getD q (str0, str0)).2 ∈ A.take r)))]) (fun r => []) (fun r => r ≤ A.length) (fun r => A.length - r) 0 ?_ ?_ ?_ ?_
                      · rw [show decide ((T.getD q (str0, str0)).2 ∈ A.take 0) = false from decide_eq_false (by simp)]
                        rfl
                      · rfl
                      · exact Nat.zero_le _
                      · rintro r g3 hr
                        dsimp only [setAll, setG, setM, List.set]
                        refine WC_seq ?_
                        refine WC_region ?_
                        refine WL_det rfl (det_lss rfl rfl) ?_
                        dsimp only [put, List.take, List.drop, List.set, ev, nth, List.nil_append, List.cons_append, md, Nat.reducePow, Nat.reduceAdd, Nat.reduceMul]
                        refine WL_nil ?_
                        refine WC_seq ?_
                        refine WC_cond rfl (fun hc10 => ?_) (fun hc10 => ?_)
                        · have hc10 := of_decide_eq_true hc10
                          refine WC_skip ?_
                          refine WC_seq ?_
                          refine WC_block ?_
                          refine WC_seq ?_
                          refine WC_region ?_
                          refine WL_det rfl (det_idxR Try.underlying22 Try.sizeOf9 rfl rfl (rfl) (by rw [sv_len]; omega) (fun w hw => RowO.rd hw 0 rfl h15)) ?_
                          dsimp only [put, List.take, List.drop, List.set, ev, nth, List.nil_append, List.cons_append, md, Nat.reducePow, Nat.reduceAdd, Nat.reduceMul]
                          refine WL_det rfl (det_loadR Try.isAgg9 rfl (fun w hw => RowO.rd hw 0 rfl h15) (sv_at A (by omega))) ?_
                          dsimp only [put, List.take, List.drop, List.set, ev, nth, List.nil_append, List.cons_append, md, Nat.reducePow, Nat.reduceAdd, Nat.reduceMul]
                          refine WL_det rfl (det_assign) ?_
                          dsimp only [put, List.take, List.drop, List.set, ev, nth, List.nil_append, List.cons_append, md, Nat.reducePow, Nat.reduceAdd, Nat.reduceMul]
                          refine WL_nil ?_
                          by_cases hB : (T.getD q (str0, str0)).2 ∈ A.take r
                          · rw [decide_eq_true hB]
                            refine WC_region ?_
                            refine WL_det rfl (det_move) ?_
                            dsimp only [put, List.take, List.drop, List.set, ev, nth, List.nil_append, List.cons_append, md, Nat.reducePow, Nat.reduceAdd, Nat.reduceMul]
                            refine WL_det rfl (det_move) ?_
                            dsimp only [put, List.take, List.drop, List.set, ev, nth, List.nil_append, List.cons_append, md, Nat.reducePow, Nat.reduceAdd, Nat.reduceMul]
                            refine WL_skipG ?_ ?_
                            · rfl
                            dsimp only [put, List.take, List.drop, List.set, ev, nth, List.nil_append, List.cons_append, md, Nat.reducePow, Nat.reduceAdd, Nat.reduceMul]
                            refine WL_skipG ?_ ?_
                            · rfl
                            dsimp only [put, List.take, List.drop, List.set, ev, nth, List.nil_append, List.cons_append, md, Nat.reducePow, Nat.reduceAdd, Nat.reduceMul]
                            refine WL_skipG ?_ ?_
                            · rfl
                            dsimp only [put, List.take, List.drop, List.set, ev, nth, List.nil_append, List.cons_append, md, Nat.reducePow, Nat.reduceAdd, Nat.reduceMul]
                            refine WL_skipG ?_ ?_
                            · rfl
                            dsimp only [put, List.take, List.drop, List.set, ev, nth, List.nil_append, List.cons_append, md, Nat.reducePow, Nat.reduceAdd, Nat.reduceMul]
                            refine WL_det rfl (Det.bv (decide ((T.getD q (str0, str0)).2 ∈ A.take (r + 1))) (det_pick_true rfl) ((decide_eq_true ((take_memG (by omega) str0 _).2 (.inl hB))).symm)) ?_
                            dsimp only [put, List.take, List.drop, List.set, ev, nth, List.nil_append, List.cons_append, md, Nat.reducePow, Nat.reduceAdd, Nat.reduceMul]
                            refine WL_det rfl (det_assign) ?_
                            dsimp only [put, List.take, List.drop, List.set, ev, nth, List.nil_append, List.cons_append, md, Nat.reducePow, Nat.reduceAdd, Nat.reduceMul]
                            refine WL_nil ?_
                            refine WC_region ?_
                            refine WL_det rfl (det_addi (q := 1) rfl rfl (by omega)) ?_
                            dsimp only [put, List.take, List.drop, List.set, ev, nth, List.nil_append, List.cons_append, md, Nat.reducePow, Nat.reduceAdd, Nat.reduceMul]
                            refine WL_det rfl (det_move) ?_
                            dsimp only [put, List.take, List.drop, List.set, ev, nth, List.nil_append, List.cons_append, md, Nat.reducePow, Nat.reduceAdd, Nat.reduceMul]
                            refine WL_nil ?_
                            refine ⟨r + 1, ?_, ?_, ?_, ?_⟩
                            · rfl
                            · rfl
                            · omega
                            · omega
                          · rw [decide_eq_false hB]
                            refine WC_region ?_
                            refine WL_det rfl (det_move) ?_
                            dsimp only [put, List.take, List.drop, List.set, ev, nth, List.nil_append, List.cons_append, md, Nat.reducePow, Nat.reduceAdd, Nat.reduceMul]
                            refine WL_det rfl (det_move) ?_
                            dsimp only [put, List.take, List.drop, List.set, ev, nth, List.nil_append, List.cons_append, md, Nat.reducePow, Nat.reduceAdd, Nat.reduceMul]
                            refine WL_detG rfl (det_move) ?_
                            dsimp only [put, List.take, List.drop, List.set, ev, nth, List.nil_append, List.cons_append, md, Nat.reducePow, Nat.reduceAdd, Nat.reduceMul]
                            refine WL_detG rfl (det_idxA (j := 1) Try.underlying76 Try.sizeOf9 rfl rfl (rfl) (by omega)) ?_
                            dsimp only [put, List.take, List.drop, List.set, ev, nth, List.nil_append, List.cons_append, md, Nat.reducePow, Nat.reduceAdd, Nat.reduceMul]
                            refine WL_detG rfl (det_load 1 Try.isAgg9 rfl rfl rfl) ?_
                            dsimp only [put, List.take, List.drop, List.set, ev, nth, List.nil_append, List.cons_append, md, Nat.reducePow, Nat.reduceAdd, Nat.reduceMul]
                            refine WL_detG rfl (Det.bv (decide ((T.getD q (str0, str0)).2 ∈ A.take (r + 1))) (det_eqlStr rfl rfl) (strE.trans (decide_eq_decide.2 ⟨fun h => (take_memG (by omega) str0 _).2 (.inr h), fun h => ((take_memG (by omega) str0 _).1 h).resolve_left hB⟩))) ?_
                            dsimp only [put, List.take, List.drop, List.set, ev, nth, List.nil_append, List.cons_append, md, Nat.reducePow, Nat.reduceAdd, Nat.reduceMul]
                            refine WL_det rfl (det_pick_false rfl) ?_
                            dsimp only [put, List.take, List.drop, List.set, ev, nth, List.nil_append, List.cons_append, md, Nat.reducePow, Nat.reduceAdd, Nat.reduceMul]
                            refine WL_det rfl (det_assign) ?_
                            dsimp only [put, List.take, List.drop, List.set, ev, nth, List.nil_append, List.cons_append, md, Nat.reducePow, Nat.reduceAdd, Nat.reduceMul]
                            refine WL_nil ?_
                            refine WC_region ?_
                            refine WL_det rfl (det_addi (q := 1) rfl rfl (by omega)) ?_
                            dsimp only [put, List.take, List.drop, List.set, ev, nth, List.nil_append, List.cons_append, md, Nat.reducePow, Nat.reduceAdd, Nat.reduceMul]
                            refine WL_det rfl (det_move) ?_
                            dsimp only [put, List.take, List.drop, List.set, ev, nth, List.nil_append, List.cons_append, md, Nat.reducePow, Nat.reduceAdd, Nat.reduceMul]
                            refine WL_nil ?_
                            refine ⟨r + 1, ?_, ?_, ?_, ?_⟩
                            · rfl
                            · rfl
                            · omega
                            · omega
                        · have hc10 := of_decide_eq_false hc10
                          obtain rfl : r = A.length := by omega
                          rw [List.take_length, decide_eq_true hin]
                          refine WC_exit ?_
                          refine inB_same ?_
                          refine WC_seq ?_
                          refine WC_region ?_
                          refine WL_det rfl (det_move) ?_
                          dsimp only [put, List.take, List.drop, List.set, ev, nth, List.nil_append, List.cons_append, md, Nat.reducePow, Nat.reduceAdd, Nat.reduceMul]
                          refine WL_det rfl (Det.bv false (det_not rfl) (rfl)) ?_
                          dsimp only [put, List.take, List.drop, List.set, ev, nth, List.nil_append, List.cons_append, md, Nat.reducePow, Nat.reduceAdd, Nat.reduceMul]
                          refine WL_nil ?_
                          refine WC_cond_false rfl ?_
                          refine WC_skip ?_
                          refine WC_region ?_
                          refine WL.forget (.cons_cons _ (.cons _ (List.Sublist.refl _))) ?_
                          refine WL_det rfl (det_addi (q := 1) rfl rfl (by omega)) ?_
                          dsimp only [put, List.take, List.drop, List.set, ev, nth, List.nil_append, List.cons_append, md, Nat.reducePow, Nat.reduceAdd, Nat.reduceMul]
                          refine WL_det rfl (det_move) ?_
                          dsimp only [put, List.take, List.drop, List.set, ev, nth, List.nil_append, List.cons_append, md, Nat.reducePow, Nat.reduceAdd, Nat.reduceMul]
                          refine WL_nil ?_
                          refine ⟨q + 1, ?_, ?_, ?_, ?_⟩
                          · rfl
                          · rfl
                          · omega
                          · omega
                  · have hc8 := of_decide_eq_false hc8
                    refine WC_exit ?_
                    refine inB_same ?_
                    refine WC_region ?_
                    refine WL_det rfl (det_addi (q := 1) rfl rfl (by omega)) ?_
                    dsimp only [put, List.take, List.drop, List.set, ev, nth, List.nil_append, List.cons_append, md, Nat.reducePow, Nat.reduceAdd, Nat.reduceMul]
                    refine WL_det rfl (det_move) ?_
                    dsimp only [put, List.take, List.drop, List.set, ev, nth, List.nil_append, List.cons_append, md, Nat.reducePow, Nat.reduceAdd, Nat.reduceMul]
                    refine WL_nil ?_
                    refine ⟨k + 1, ?_, ?_, ?_, ?_⟩
                    · rfl
                    · rfl
                    · omega
                    · omega
              · refine WC_region ?_
                refine WL_det rfl (det_move) ?_
                dsimp only [put, List.take, List.drop, List.set, ev, nth, List.nil_append, List.cons_append, md, Nat.reducePow, Nat.reduceAdd, Nat.reduceMul]
                refine WL_det rfl (Det.bv false (det_not rfl) (rfl)) ?_
                dsimp only [put, List.take, List.drop, List.set, ev, nth, List.nil_append, List.cons_append, md, Nat.reducePow, Nat.reduceAdd, Nat.reduceMul]
                refine WL_det rfl (det_move) ?_
                dsimp only [put, List.take, List.drop, List.set, ev, nth, List.nil_append, List.cons_append, md, Nat.reducePow, Nat.reduceAdd, Nat.reduceMul]
                refine WL_detG rfl (det_move) ?_
                dsimp only [put, List.take, List.drop, List.set, ev, nth, List.nil_append, List.cons_append, md, Nat.reducePow, Nat.reduceAdd, Nat.reduceMul]
                refine WL_detG rfl (det_idxR (j := 0) Try.underlying22 Try.sizeOf9 rfl rfl (rfl) (by rw [sv_len]; exact hpos) (fun w hw => RowO.rd hw 2 rfl h18)) ?_
                dsimp only [put, List.take, List.drop, List.set, ev, nth, List.nil_append, List.cons_append, md, Nat.reducePow, Nat.reduceAdd, Nat.reduceMul]
                refine WL_detG rfl (det_loadR Try.isAgg9 rfl (fun w hw => RowO.rd hw 2 rfl h18) (sv_at p (hpos))) ?_
                dsimp only [put, List.take, List.drop, List.set, ev, nth, List.nil_append, List.cons_append, md, Nat.reducePow, Nat.reduceAdd, Nat.reduceMul]
                refine WL_detG rfl (Det.bv false (det_neqStr rfl rfl) (strN (List.mem_singleton.1 hok.first))) ?_
                dsimp only [put, List.take, List.drop, List.set, ev, nth, List.nil_append, List.cons_append, md, Nat.reducePow, Nat.reduceAdd, Nat.reduceMul]
                refine WL_det rfl (det_pick_false rfl) ?_
                dsimp only [put, List.take, List.drop, List.set, ev, nth, List.nil_append, List.cons_append, md, Nat.reducePow, Nat.reduceAdd, Nat.reduceMul]
                refine WL_det rfl (det_move) ?_
                dsimp only [put, List.take, List.drop, List.set, ev, nth, List.nil_append, List.cons_append, md, Nat.reducePow, Nat.reduceAdd, Nat.reduceMul]
                refine WL_detG rfl (det_move) ?_
                dsimp only [put, List.take, List.drop, List.set, ev, nth, List.nil_append, List.cons_append, md, Nat.reducePow, Nat.reduceAdd, Nat.reduceMul]
                refine WL_detG rfl (det_move) ?_
                dsimp only [put, List.take, List.drop, List.set, ev, nth, List.nil_append, List.cons_append, md, Nat.reducePow, Nat.reduceAdd, Nat.reduceMul]
                refine WL_detG rfl (det_lenR Try.underlying22 rfl (fun w hw => RowO.rd hw 2 rfl h18) (sv_len p)) ?_
                dsimp only [put, List.take, List.drop, List.set, ev, nth, List.nil_append, List.cons_append, md, Nat.reducePow, Nat.reduceAdd, Nat.reduceMul]
                refine WL_detG rfl (det_subi (q := 1) rfl rfl (by omega) (by omega)) ?_
                dsimp only [put, List.take, List.drop, List.set, ev, nth, List.nil_append, List.cons_append, md, Nat.reducePow, Nat.reduceAdd, Nat.reduceMul]
                refine WL_detG rfl (det_idxR Try.underlying22 Try.sizeOf9 rfl rfl (rfl) (by rw [sv_len]; omega) (fun w hw => RowO.rd hw 2 rfl h18)) ?_
                dsimp only [put, List.take, List.drop, List.set, ev, nth, List.nil_append, List.cons_append, md, Nat.reducePow, Nat.reduceAdd, Nat.reduceMul]
                refine WL_detG rfl (det_loadR Try.isAgg9 rfl (fun w hw => RowO.rd hw 2 rfl h18) (sv_at p (by omega))) ?_
                dsimp only [put, List.take, List.drop, List.set, ev, nth, List.nil_append, List.cons_append, md, Nat.reducePow, Nat.reduceAdd, Nat.reduceMul]
                refine WL_detG rfl (det_move) ?_
                dsimp only [put, List.take, List.drop, List.set, ev, nth, List.nil_append, List.cons_append, md, Nat.reducePow, Nat.reduceAdd, Nat.reduceMul]
                refine WL_detG rfl (Det.bv false (det_neqStr rfl rfl) (strN hok.last)) ?_
                dsimp only [put, List.take, List.drop, List.set, ev, nth, List.nil_append, List.cons_append, md, Nat.reducePow, Nat.reduceAdd, Nat.reduceMul]
                refine WL_det rfl (det_pick_false rfl) ?_
                dsimp only [put, List.take, List.drop, List.set, ev, nth, List.nil_append, List.cons_append, md, Nat.reducePow, Nat.reduceAdd, Nat.reduceMul]
                refine WL_det rfl (det_move) ?_
                dsimp only [put, List.take, List.drop, List.set, ev, nth, List.nil_append, List.cons_append, md, Nat.reducePow, Nat.reduceAdd, Nat.reduceMul]
                refine WL_detG rfl (det_move) ?_
                dsimp only [put, List.take, List.drop, List.set, ev, nth, List.nil_append, List.cons_append, md, Nat.reducePow, Nat.reduceAdd, Nat.reduceMul]
                refine WL_detG rfl (Det.bv false (det_eql (q := 0) rfl rfl) (decide_eq_false hk0)) ?_
                dsimp only [put, List.take, List.drop, List.set, ev, nth, List.nil_append, List.cons_append, md, Nat.reducePow, Nat.reduceAdd, Nat.reduceMul]
                refine WL_detG rfl (det_move) ?_
                dsimp only [put, List.take, List.drop, List.set, ev, nth, List.nil_append, List.cons_append, md, Nat.reducePow, Nat.reduceAdd, Nat.reduceMul]
                refine WL_skipG ?_ ?_
                · rfl
                dsimp only [put, List.take, List.drop, List.set, ev, nth, List.nil_append, List.cons_append, md, Nat.reducePow, Nat.reduceAdd, Nat.reduceMul]
                refine WL_skipG ?_ ?_
                · rfl
                dsimp only [put, List.take, List.drop, List.set, ev, nth, List.nil_append, List.cons_append, md, Nat.reducePow, Nat.reduceAdd, Nat.reduceMul]
                refine WL_detG rfl (det_pick_false rfl) ?_
                dsimp only [put, List.take, List.drop, List.set, ev, nth, List.nil_append, List.cons_append, md, Nat.reducePow, Nat.reduceAdd, Nat.reduceMul]
                refine WL_det rfl (det_pick_false rfl) ?_
                dsimp only [put, List.take, List.drop, List.set, ev, nth, List.nil_append, List.cons_append, md, Nat.reducePow, Nat.reduceAdd, Nat.reduceMul]
                refine WL_nil ?_
                refine WC.forget (.cons_cons _ (.cons _ (.cons _ (List.Sublist.refl _)))) ?_
                refine WC_cond_false rfl ?_
                refine WC_skip ?_
                refine WC_seq ?_
                refine WC_region ?_
                refine WL_det rfl (det_move) ?_
                dsimp only [put, List.take, List.drop, List.set, ev, nth, List.nil_append, List.cons_append, md, Nat.reducePow, Nat.reduceAdd, Nat.reduceMul]
                refine WL_det rfl (det_lenQ Try.underlying71 rfl (fun w hw => RdQ.far hw hT)) ?_
                dsimp only [put, List.take, List.drop, List.set, ev, nth, List.nil_append, List.cons_append, md, Nat.reducePow, Nat.reduceAdd, Nat.reduceMul]
                refine WL_det rfl (det_move) ?_
                dsimp only [put, List.take, List.drop, List.set, ev, nth, List.nil_append, List.cons_append, md, Nat.reducePow, Nat.reduceAdd, Nat.reduceMul]
                refine WL_nil ?_
                refine WC_block ?_
                refine WC_loopS (ι := Nat) [139, 140, 141, 21, 142, 143, 144, 145, 22, 146, 147, 148, 149, 150, 151, 24, 152, 153, 154, 155, 156, 157, 158, 159, 160, 161, 4, 162] (fun q => [(138, vn .i64 (q))]) (fun q => []) (fun q => q ≤ T.length) (fun q => T.length - q) 0 ?_ ?_ ?_ ?_
                · rfl
                · rfl
                · exact Nat.zero_le _
                · rintro q g'' hq
                  dsimp only [setAll, setG, setM, List.set]
                  refine WC_seq ?_
                  refine WC_region ?_
                  refine WL_det rfl (det_lss rfl rfl) ?_
                  dsimp only [put, List.take, List.drop, List.set, ev, nth, List.nil_append, List.cons_append, md, Nat.reducePow, Nat.reduceAdd, Nat.reduceMul]
                  refine WL_nil ?_
                  refine WC_seq ?_
                  refine WC_cond rfl (fun hc8 => ?_) (fun hc8 => ?_)
                  · have hc8 := of_decide_eq_true hc8
                    refine WC_skip ?_
                    refine WC_seq ?_
                    refine WC_block ?_
                    refine WC_seq ?_
                    refine WC_region ?_
                    refine WL_det rfl (det_idxQ Try.underlying71 Try.sizeOf76 rfl rfl (rfl) (by omega) (fun w hw => RdQ.far hw hT)) ?_
                    dsimp only [put, List.take, List.drop, List.set, ev, nth, List.nil_append, List.cons_append, md, Nat.reducePow, Nat.reduceAdd, Nat.reduceMul]
                    refine WL_det rfl (det_loadQ Try.underlying76 rfl i76 rfl (fun w hw => RdQ.far hw hT) (by omega)) ?_
                    dsimp only [put, List.take, List.drop, List.set, ev, nth, List.nil_append, List.cons_append, md, Nat.reducePow, Nat.reduceAdd, Nat.reduceMul]
                    refine WL_relAt 1 rfl (rel_alloc Try.zeroValue76 rfl) ?_
                    rintro _ _ ⟨b1, rfl, rfl⟩
                    dsimp only [put, List.take, List.drop, List.set, ev, nth, List.nil_append, List.cons_append, md, Nat.reducePow, Nat.reduceAdd, Nat.reduceMul]
                    refine WL_chg rfl (chg_storeWn 1 _ rfl rfl rfl Try.sizeOf76 rfl rfl rfl (pkS_one _)) ?_
                    rintro _ _ rfl
                    dsimp only [put, List.take, List.drop, List.set, ev, nth, List.nil_append, List.cons_append, md, Nat.reducePow, Nat.reduceAdd, Nat.reduceMul]
                    refine WL_nil ?_
                    refine WC_seq ?_
                    refine WC_seq ?_
                    refine WC_region ?_
                    refine WL_det rfl (det_idxA (j := 0) Try.underlying76 Try.sizeOf9 rfl rfl (rfl) (by omega)) ?_
                    dsimp only [put, List.take, List.drop, List.set, ev, nth, List.nil_append, List.cons_append, md, Nat.reducePow, Nat.reduceAdd, Nat.reduceMul]
                    refine WL_det rfl (det_load 1 Try.isAgg9 rfl rfl rfl) ?_
                    dsimp only [put, List.take, List.drop, List.set, ev, nth, List.nil_append, List.cons_append, md, Nat.reducePow, Nat.reduceAdd, Nat.reduceMul]
                    refine WL_det rfl (det_move) ?_
                    dsimp only [put, List.take, List.drop, List.set, ev, nth, List.nil_append, List.cons_append, md, Nat.reducePow, Nat.reduceAdd, Nat.reduceMul]
                    refine WL_det rfl (Det.bv (!decide ((T.getD q (str0, str0)).1 = (A.getD k str0))) (det_neqStr rfl rfl) (by rw [strE])) ?_
                    dsimp only [put, List.take, List.drop, List.set, ev, nth, List.nil_append, List.cons_append, md, Nat.reducePow, Nat.reduceAdd, Nat.reduceMul]
                    refine WL_nil ?_
                    refine WC_cond rfl (fun hc9 => ?_) (fun hc9 => ?_)
                    · refine WC_exit ?_
                      refine inB_same ?_
                      refine WC_region ?_
                      refine WL.forget (.cons_cons _ (.cons _ (List.Sublist.refl _))) ?_
                      refine WL_det rfl (det_addi (q := 1) rfl rfl (by omega)) ?_
                      dsimp only [put, List.take, List.drop, List.set, ev, nth, List.nil_append, List.cons_append, md, Nat.reducePow, Nat.reduceAdd, Nat.reduceMul]
                      refine WL_det rfl (det_move) ?_
                      dsimp only [put, List.take, List.drop, List.set, ev, nth, List.nil_append, List.cons_append, md, Nat.reducePow, Nat.reduceAdd, Nat.reduceMul]
                      refine WL_nil ?_
                      refine ⟨q + 1, ?_, ?_, ?_, ?_⟩
                      · rfl
                      · rfl
                      · omega
                      · omega
                    · have heq : (T.getD q (str0, str0)).1 = (A.getD k str0) := by simpa using hc9
                      have hin : (T.getD q (str0, str0)).2 ∈ A := hcl _ hto _ (getD_memG (by omega) _) heq
                      refine WC_skip ?_
                      refine WC_seq ?_
                      refine WC_region ?_
                      refine WL_det rfl (det_assign) ?_
                      dsimp only [put, List.take, List.drop, List.set, ev, nth, List.nil_append, List.cons_append, md, Nat.reducePow, Nat.reduceAdd, Nat.reduceMul]
                      refine WL_nil ?_
                      refine WC_seq ?_
                      refine WC_seq ?_
                      refine WC_region ?_
                      refine WL_det rfl (det_move) ?_
                      dsimp only [put, List.take, List.drop, List.set, ev, nth, List.nil_append, List.cons_append, md, Nat.reducePow, Nat.reduceAdd, Nat.reduceMul]
                      refine WL_det rfl (det_lenR Try.underlying22 rfl (fun w hw => RowO.rd hw 0 rfl h15) (sv_len A)) ?_
                      dsimp only [put, List.take, List.drop, List.set, ev, nth, List.nil_append, List.cons_append, md, Nat.reducePow, Nat.reduceAdd, Nat.reduceMul]
                      refine WL_det rfl (det_move) ?_
                      dsimp only [put, List.take, List.drop, List.set, ev, nth, List.nil_append, List.cons_append, md, Nat.reducePow, Nat.reduceAdd, Nat.reduceMul]
                      refine WL_nil ?_
                      refine WC_block ?_
                      refine WC_loopS (ι := Nat) [149, 150, 151, 24, 152, 153, 154, 155, 156, 157, 158, 159] (fun r => [(148, vn .i64 (r)), (22, .bool (decide ((T.getD q (str0, str0)).2 ∈ A.take r)))]) (fun r => []) (fun r => r ≤ A.length) (fun r => A.length - r) 0 ?_ ?_ ?_ ?_
                      · rw [show decide ((T.getD q (str0, str0)).2 ∈ A.take 0) = false from decide_eq_false (by simp)]
                        rfl
                      · rfl
                      · exact Nat.zero_le _
                      · rintro r g3 hr
                        dsimp only [setAll, setG, setM, List.set]
                        refine WC_seq ?_
                        refine WC_region ?_
                        refine WL_det rfl (det_lss rfl rfl) ?_
                        dsimp only [put, List.take, List.drop, List.set, ev, nth, List.nil_append, List.cons_append, md, Nat.reducePow, Nat.reduceAdd, Nat.reduceMul]
                        refine WL_nil ?_
                        refine WC_seq ?_
                        refine WC_cond rfl (fun hc10 => ?_) (fun hc10 => ?_)
                        · have hc10 := of_decide_eq_true hc10
                          refine WC_skip ?_
                          refine WC_seq ?_
                          refine WC_block ?_
                          refine WC_seq ?_
                          refine WC_region ?_
                          refine WL_det rfl (det_idxR Try.underlying22 Try.sizeOf9 rfl rfl (rfl) (by rw [sv_len]; omega) (fun w hw => RowO.rd hw 0 rfl h15)) ?_
                          dsimp only [put, List.take, List.drop, List.set, ev, nth, List.nil_append, List.cons_append, md, Nat.reducePow, Nat.reduceAdd, Nat.reduceMul]
                          refine WL_det rfl (det_loadR Try.isAgg9 rfl (fun w hw => RowO.rd hw 0 rfl h15) (sv_at A (by omega))) ?_
                          dsimp only [put, List.take, List.drop, List.set, ev, nth, List.nil_append, List.cons_append, md, Nat.reducePow, Nat.reduceAdd, Nat.reduceMul]
                          refine WL_det rfl (det_assign) ?_
                          dsimp only [put, List.take, List.drop, List.set, ev, nth, List.nil_append, List.cons_append, md, Nat.reducePow, Nat.reduceAdd, Nat.reduceMul]
                          refine WL_nil ?_
                          by_cases hB : (T.getD q (str0, str0)).2 ∈ A.take r
                          · rw [decide_eq_true hB]
                            refine WC_region ?_
                            refine WL_det rfl (det_move) ?_
                            dsimp only [put, List.take, List.drop, List.set, ev, nth, List.nil_append, List.cons_append, md, Nat.reducePow, Nat.reduceAdd, Nat.reduceMul]
                            refine WL_det rfl (det_move) ?_
                            dsimp only [put, List.take, List.drop, List.set, ev, nth, List.nil_append, List.cons_append, md, Nat.reducePow, Nat.reduceAdd, Nat.reduceMul]
                            refine WL_skipG ?_ ?_
                            · rfl
                            dsimp only [put, List.take, List.drop, List.set, ev, nth, List.nil_append, List.cons_append, md, Nat.reducePow, Nat.reduceAdd, Nat.reduceMul]
                            refine WL_skipG ?_ ?_
                            · rfl
                            dsimp only [put, List.take, List.drop, List.set, ev, nth, List.nil_append, List.cons_append, md, Nat.reducePow, Nat.reduceAdd, Nat.reduceMul]
                            refine WL_skipG ?_ ?_
                            · rfl
                            dsimp only [put, List.take, List.drop, List.set, ev, nth, List.nil_append, List.cons_append, md, Nat.reducePow, Nat.reduceAdd, Nat.reduceMul]
                            refine WL_skipG ?_ ?_
                            · rfl
                            dsimp only [put, List.take, List.drop, List.set, ev, nth, List.nil_append, List.cons_append, md, Nat.reducePow, Nat.reduceAdd, Nat.reduceMul]
                            refine WL_det rfl (Det.bv (decide ((T.getD q (str0, str0)).2 ∈ A.take (r + 1))) (det_pick_true rfl) ((decide_eq_true ((take_memG (by omega) str0 _).2 (.inl hB))).symm)) ?_
                            dsimp only [put, List.take, List.drop, List.set, ev, nth, List.nil_append, List.cons_append, md, Nat.reducePow, Nat.reduceAdd, Nat.reduceMul]
                            refine WL_det rfl (det_assign) ?_
                            dsimp only [put, List.take, List.drop, List.set, ev, nth, List.nil_append, List.cons_append, md, Nat.reducePow, Nat.reduceAdd, Nat.reduceMul]
                            refine WL_nil ?_
                            refine WC_region ?_
                            refine WL_det rfl (det_addi (q := 1) rfl rfl (by omega)) ?_
                            dsimp only [put, List.take, List.drop, List.set, ev, nth, List.nil_append, List.cons_append, md, Nat.reducePow, Nat.reduceAdd, Nat.reduceMul]
                            refine WL_det rfl (det_move) ?_
                            dsimp only [put, List.take, List.drop, List.set, ev, nth, List.nil_append, List.cons_append, md, Nat.reducePow, Nat.reduceAdd, Nat.reduceMul]
                            refine WL_nil ?_
                            refine ⟨r + 1, ?_, ?_, ?_, ?_⟩
                            · rfl
                            · rfl
                            · omega
                            · omega
                          · rw [decide_eq_false hB]
                            refine WC_region ?_
                            refine WL_det rfl (det_move) ?_
                            dsimp only [put, List.take, List.drop, List.set, ev, nth, List.nil_append, List.cons_append, md, Nat.reducePow, Nat.reduceAdd, Nat.reduceMul]
                            refine WL_det rfl (det_move) ?_
                            dsimp only [put, List.take, List.drop, List.set, ev, nth, List.nil_append, List.cons_append, md, Nat.reducePow, Nat.reduceAdd, Nat.reduceMul]
                            refine WL_detG rfl (det_move) ?_
                            dsimp only [put, List.take, List.drop, List.set, ev, nth, List.nil_append, List.cons_append, md, Nat.reducePow, Nat.reduceAdd, Nat.reduceMul]
                            refine WL_detG rfl (det_idxA (j := 1) Try.underlying76 Try.sizeOf9 rfl rfl (rfl) (by omega)) ?_
                            dsimp only [put, List.take, List.drop, List.set, ev, nth, List.nil_append, List.cons_append, md, Nat.reducePow, Nat.reduceAdd, Nat.reduceMul]
                            refine WL_detG rfl (det_load 1 Try.isAgg9 rfl rfl rfl) ?_
                            dsimp only [put, List.take, List.drop, List.set, ev, nth, List.nil_append, List.cons_append, md, Nat.reducePow, Nat.reduceAdd, Nat.reduceMul]
                            refine WL_detG rfl (Det.bv (decide ((T.getD q (str0, str0)).2 ∈ A.take (r + 1))) (det_eqlStr rfl rfl) (strE.trans (decide_eq_decide.2 ⟨fun h => (take_memG (by omega) str0 _).2 (.inr h), fun h => ((take_memG (by omega) str0 _).1 h).resolve_left hB⟩))) ?_
                            dsimp only [put, List.take, List.drop, List.set, ev, nth, List.nil_append, List.cons_append, md, Nat.reducePow, Nat.reduceAdd, Nat.reduceMul]
                            refine WL_det rfl (det_pick_false rfl) ?_
                            dsimp only [put, List.take, List.drop, List.set, ev, nth, List.nil_append, List.cons_append, md, Nat.reducePow, Nat.reduceAdd, Nat.reduceMul]
                            refine WL_det rfl (det_assign) ?_
                            dsimp only [put, List.take, List.drop, List.set, ev, nth, List.nil_append, List.cons_append, md, Nat.reducePow, Nat.reduceAdd, Nat.reduceMul]
                            refine WL_nil ?_
                            refine WC_region ?_
                            refine WL_det rfl (det_addi (q := 1) rfl rfl (by omega)) ?_
                            dsimp only [put, List.take, List.drop, List.set, ev, nth, List.nil_append, List.cons_append, md, Nat.reducePow, Nat.reduceAdd, Nat.reduceMul]
                            refine WL_det rfl (det_move) ?_
                            dsimp only [put, List.take, List.drop, List.set, ev, nth, List.nil_append, List.cons_append, md, Nat.reducePow, Nat.reduceAdd, Nat.reduceMul]
                            refine WL_nil ?_
                            refine ⟨r + 1, ?_, ?_, ?_, ?_⟩
                            · rfl
                            · rfl
                            · omega
                            · omega
                        · have hc10 := of_decide_eq_false hc10
                          obtain rfl : r = A.length := by omega
                          rw [List.take_length, decide_eq_true hin]
                          refine WC_exit ?_
                          refine inB_same ?_
                          refine WC_seq ?_
                          refine WC_region ?_
                          refine WL_det rfl (det_move) ?_
                          dsimp only [put, List.take, List.drop, List.set, ev, nth, List.nil_append, List.cons_append, md, Nat.reducePow, Nat.reduceAdd, Nat.reduceMul]
                          refine WL_det rfl (Det.bv false (det_not rfl) (rfl)) ?_
                          dsimp only [put, List.take, List.drop, List.set, ev, nth, List.nil_append, List.cons_append, md, Nat.reducePow, Nat.reduceAdd, Nat.reduceMul]
                          refine WL_nil ?_
                          refine WC_cond_false rfl ?_
                          refine WC_skip ?_
                          refine WC_region ?_
                          refine WL.forget (.cons_cons _ (.cons _ (List.Sublist.refl _))) ?_
                          refine WL_det rfl (det_addi (q := 1) rfl rfl (by omega)) ?_
                          dsimp only [put, List.take, List.drop, List.set, ev, nth, List.nil_append, List.cons_append, md, Nat.reducePow, Nat.reduceAdd, Nat.reduceMul]
                          refine WL_det rfl (det_move) ?_
                          dsimp only [put, List.take, List.drop, List.set, ev, nth, List.nil_append, List.cons_append, md, Nat.reducePow, Nat.reduceAdd, Nat.reduceMul]
                          refine WL_nil ?_
                          refine ⟨q + 1, ?_, ?_, ?_, ?_⟩
                          · rfl
                          · rfl
                          · omega
                          · omega
                  · have hc8 := of_decide_eq_false hc8
                    refine WC_exit ?_
                    refine inB_same ?_
                    refine WC_region ?_
                    refine WL_det rfl (det_addi (q := 1) rfl rfl (by omega)) ?_
                    dsimp only [put, List.take, List.drop, List.set, ev, nth, List.nil_append, List.cons_append, md, Nat.reducePow, Nat.reduceAdd, Nat.reduceMul]
                    refine WL_det rfl (det_move) ?_
                    dsimp only [put, List.take, List.drop, List.set, ev, nth, List.nil_append, List.cons_append, md, Nat.reducePow, Nat.reduceAdd, Nat.reduceMul]
                    refine WL_nil ?_
                    refine ⟨k + 1, ?_, ?_, ?_, ?_⟩
                    · rfl
                    · rfl
                    · omega
                    · omega
            · have hc6 := of_decide_eq_false hc6
              refine WC_exit ?_
              refine inB_same ?_
              refine WC_seq ?_
              refine WC_region ?_
              refine WL_det rfl (det_move) ?_
              dsimp only [put, List.take, List.drop, List.set, ev, nth, List.nil_append, List.cons_append, md, Nat.reducePow, Nat.reduceAdd, Nat.reduceMul]
              refine WL_det rfl (det_lenR Try.underlying22 rfl (fun w hw => RowO.rd hw 0 rfl h15) (sv_len A)) ?_
              dsimp only [put, List.take, List.drop, List.set, ev, nth, List.nil_append, List.cons_append, md, Nat.reducePow, Nat.reduceAdd, Nat.reduceMul]
              refine WL_det rfl (Det.bv true (det_gtr (q := 0) rfl rfl) (decide_eq_true hfirst.1)) ?_
              dsimp only [put, List.take, List.drop, List.set, ev, nth, List.nil_append, List.cons_append, md, Nat.reducePow, Nat.reduceAdd, Nat.reduceMul]
              refine WL_det rfl (det_assign) ?_
              dsimp only [put, List.take, List.drop, List.set, ev, nth, List.nil_append, List.cons_append, md, Nat.reducePow, Nat.reduceAdd, Nat.reduceMul]
              refine WL_nil ?_
              refine WC_ret ?_
              refine fin_tmp Try.results8 rfl ([]) (List.nil_sublist _) ?_
              exact ⟨rfl, rfl⟩

end Go.Proofs.Ytocmlaloafmfkaa
