/- What the claim of this folder needs of its texts, put together by a program of this claim. Conditions: none. -/
import Derived.Test.YtocmlaloafmfkaaBLP14
set_option linter.unusedSectionVars false
set_option linter.unusedSimpArgs false
set_option linter.unusedVariables false
set_option linter.unusedVariables false
namespace Go.Proofs.Ytocmlaloafmfkaa
open Go.MW
theorem RdL.take {w : World} {l : List Value} {p : Option Addr} {n c : Nat} (h : RdL w l (.slice p n c)) {k : Nat} (hk : k ≤ l.length) : RdL w (l.take k) (.slice p k c) := by
  obtain ⟨p', c', b, o, h1, h2, h3⟩ := h
  simp only [Value.slice.injEq] at h1
  obtain ⟨rfl, rfl, rfl⟩ := h1
  have hl : (l.take k).length = k := by rw [List.length_take]; omega
  refine ⟨p, c, b, o, by rw [hl], fun h0 => h2 (by omega), fun i hi => ?_⟩
  rw [hl] at hi
  rw [h3 i (by omega), List.getElem?_take_of_lt hi]
theorem iv_take (l : List Int) (k : Nat) : iv (l.take k) = (iv l).take k := by simp [iv, List.map_take]
theorem in_b (L : List Int) (x : Int) (v : Value) (b : Bool) (hb : decide (x ∈ L) = b) (hn : L.length ≤ 1000000) (w : World) (hr : RdL w (iv L) v) : Calls Try.prog 26 #[v, .int .i64 x] w (PostV w (.bool b)) := hb ▸ in_spec L x v hn w hr
theorem path_len {es : List (Int × Int)} {F : List Int} {to : Int} (hto : to ∈ (srch es F).map Prod.fst) : (pathA (srch es F) (((srch es F).map Prod.fst).idxOf to)).length ≤ F.length + 2 * es.length := by
  have h1 := List.idxOf_lt_length_iff.2 hto
  rw [List.length_map] at h1
  have h2 := chainI_len (srch_ok es F).back (((srch es F).map Prod.fst).idxOf to)
  have h3 := stA_len es F (bndA es F)
  have h4 := nodes_len es
  unfold pathA
  rw [List.length_reverse]
  unfold srch at h1 h2 ⊢
  unfold bndA at *
  omega
theorem PathOk.once_ {α : Type} [DecidableEq α] {L : List (α × α)} {F : List α} {to d : α} {p : List α} (h : PathOk (onceE L) F to d p) : PathOk L F to d p :=
  ⟨h.pos, h.first, h.last, h.seed, fun i hi => mem_once.1 (h.edge i hi), fun hl he => h.short hl (mem_once.2 he), h.once⟩
theorem take_mem {L : List (Int × Int)} {q : Nat} (h : q < L.length) (e : Int × Int) : e ∈ L.take (q + 1) ↔ e ∈ L.take q ∨ ((L.getD q (0, 0)).1 = e.1 ∧ (L.getD q (0, 0)).2 = e.2) := by
  rw [List.take_succ_eq_append_getElem h, List.mem_append, List.mem_singleton, List.getD_eq_getElem?_getD, List.getElem?_eq_getElem h]
  constructor
  · rintro (h | rfl)
    · exact .inl h
    · exact .inr ⟨rfl, rfl⟩
  · rintro (h | ⟨h1, h2⟩)
    · exact .inl h
    · exact .inr (Prod.ext h1.symm h2.symm)
theorem getD_mem2 {L : List (Int × Int)} {q : Nat} (h : q < L.length) : ((L.getD q (0, 0)).1, (L.getD q (0, 0)).2) ∈ L := by
  rw [List.getD_eq_getElem?_getD, List.getElem?_eq_getElem h]
  exact List.getElem_mem h

set_option maxRecDepth 100000 in
set_option maxHeartbeats 4000000 in
theorem lpath_spec (L : List (Int × Int)) (F : List Int) (to : Int) (va vb : Value) {w0 : World} {m0 : Mem} {w : World} (hw0 : Has w0 (m0) w) (hL : RdP w0 L va) (hF : RdL w0 (iv F) vb) :
    Calls Try.prog 5 [va, vb, .int .i64 to].toArray w (Post w0 fun v m => v = .bool true ∧ m = []) := by
  refine calls_of_WCm Try.func5 rfl ?_ hw0
  simp only [Try.ntmps5, List.length_cons, List.length_nil, Nat.reduceAdd, Nat.reduceSub, List.replicate, List.cons_append, List.nil_append]
  refine WC_seq ?_
  refine WC_region ?_
  refine WL_det rfl (det_assign) ?_
  dsimp only [put, List.take, List.drop, List.set, ev, nth, List.nil_append, List.cons_append, md, Nat.reducePow, Nat.reduceAdd, Nat.reduceMul]
  refine WL_nil ?_
  refine WC_seq ?_
  refine WC_seq ?_
  refine WC_region ?_
  refine WL_rel rfl (Rel_call rfl Try.call23 (fun w hw => lawake_spec w)) ?_
  rintro _ _ ⟨rfl, rfl⟩
  dsimp only [put, List.append_nil, List.set, ev, nth, List.nil_append, List.cons_append, md, Nat.reducePow, Nat.reduceAdd, Nat.reduceMul]
  try simp only [List.append_nil]
  refine WL_det rfl (det_not rfl) ?_
  dsimp only [put, List.take, List.drop, List.set, ev, nth, List.nil_append, List.cons_append, md, Nat.reducePow, Nat.reduceAdd, Nat.reduceMul]
  refine WL_nil ?_
  refine WC_cond_false rfl ?_
  refine WC_skip ?_
  refine WC_seq ?_
  refine WC_seq ?_
  by_cases h1 : 40 < L.length
  · refine WC_region ?_
    refine WL_det rfl (det_move) ?_
    dsimp only [put, List.take, List.drop, List.set, ev, nth, List.nil_append, List.cons_append, md, Nat.reducePow, Nat.reduceAdd, Nat.reduceMul]
    refine WL_det rfl (det_lenP Try.underlying52 rfl (fun w hw => RdP.far hw hL)) ?_
    dsimp only [put, List.take, List.drop, List.set, ev, nth, List.nil_append, List.cons_append, md, Nat.reducePow, Nat.reduceAdd, Nat.reduceMul]
    refine WL_det rfl (Det.bv true (det_gtr (q := 40) rfl rfl) (decide_eq_true h1)) ?_
    dsimp only [put, List.take, List.drop, List.set, ev, nth, List.nil_append, List.cons_append, md, Nat.reducePow, Nat.reduceAdd, Nat.reduceMul]
    refine WL_det rfl (det_move) ?_
    dsimp only [put, List.take, List.drop, List.set, ev, nth, List.nil_append, List.cons_append, md, Nat.reducePow, Nat.reduceAdd, Nat.reduceMul]
    refine WL_skipG ?_ ?_
    · rfl
    dsimp only [put, List.take, List.drop, List.set, ev, nth, List.nil_append, List.cons_append, md, Nat.reducePow, Nat.reduceAdd, Nat.reduceMul]
    refine WL_skipG ?_ ?_
    · rfl
    dsimp only [put, List.take, List.drop, List.set, ev, nth, List.nil_append, List.cons_append, md, Nat.reducePow, Nat.reduceAdd, Nat.reduceMul]
    refine WL_skipG ?_ ?_
    · rfl
    dsimp only [put, List.take, List.drop, List.set, ev, nth, List.nil_append, List.cons_append, md, Nat.reducePow, Nat.reduceAdd, Nat.reduceMul]
    refine WL_det rfl (det_pick_true rfl) ?_
    dsimp only [put, List.take, List.drop, List.set, ev, nth, List.nil_append, List.cons_append, md, Nat.reducePow, Nat.reduceAdd, Nat.reduceMul]
    refine WL_nil ?_
    refine WC_cond_true rfl ?_
    refine WC_seq ?_
    refine WC_region ?_
    refine WL_det rfl (det_assign) ?_
    dsimp only [put, List.take, List.drop, List.set, ev, nth, List.nil_append, List.cons_append, md, Nat.reducePow, Nat.reduceAdd, Nat.reduceMul]
    refine WL_nil ?_
    refine WC_ret ?_
    refine fin_tmp Try.results5 rfl ([]) (List.nil_sublist _) ?_
    exact ⟨rfl, rfl⟩
  · by_cases h2 : 20 < F.length
    · refine WC_region ?_
      refine WL_det rfl (det_move) ?_
      dsimp only [put, List.take, List.drop, List.set, ev, nth, List.nil_append, List.cons_append, md, Nat.reducePow, Nat.reduceAdd, Nat.reduceMul]
      refine WL_det rfl (det_lenP Try.underlying52 rfl (fun w hw => RdP.far hw hL)) ?_
      dsimp only [put, List.take, List.drop, List.set, ev, nth, List.nil_append, List.cons_append, md, Nat.reducePow, Nat.reduceAdd, Nat.reduceMul]
      refine WL_det rfl (Det.bv false (det_gtr (q := 40) rfl rfl) (decide_eq_false h1)) ?_
      dsimp only [put, List.take, List.drop, List.set, ev, nth, List.nil_append, List.cons_append, md, Nat.reducePow, Nat.reduceAdd, Nat.reduceMul]
      refine WL_det rfl (det_move) ?_
      dsimp only [put, List.take, List.drop, List.set, ev, nth, List.nil_append, List.cons_append, md, Nat.reducePow, Nat.reduceAdd, Nat.reduceMul]
      refine WL_detG rfl (det_move) ?_
      dsimp only [put, List.take, List.drop, List.set, ev, nth, List.nil_append, List.cons_append, md, Nat.reducePow, Nat.reduceAdd, Nat.reduceMul]
      refine WL_detG rfl (det_lenR Try.underlying43 rfl (fun w hw => RdL.far hw hF) (iv_len F)) ?_
      dsimp only [put, List.take, List.drop, List.set, ev, nth, List.nil_append, List.cons_append, md, Nat.reducePow, Nat.reduceAdd, Nat.reduceMul]
      refine WL_detG rfl (Det.bv true (det_gtr (q := 20) rfl rfl) (decide_eq_true h2)) ?_
      dsimp only [put, List.take, List.drop, List.set, ev, nth, List.nil_append, List.cons_append, md, Nat.reducePow, Nat.reduceAdd, Nat.reduceMul]
      refine WL_det rfl (det_pick_false rfl) ?_
      dsimp only [put, List.take, List.drop, List.set, ev, nth, List.nil_append, List.cons_append, md, Nat.reducePow, Nat.reduceAdd, Nat.reduceMul]
      refine WL_nil ?_
      refine WC_cond_true rfl ?_
      refine WC_seq ?_
      refine WC_region ?_
      refine WL_det rfl (det_assign) ?_
      dsimp only [put, List.take, List.drop, List.set, ev, nth, List.nil_append, List.cons_append, md, Nat.reducePow, Nat.reduceAdd, Nat.reduceMul]
      refine WL_nil ?_
      refine WC_ret ?_
      refine fin_tmp Try.results5 rfl ([]) (List.nil_sublist _) ?_
      exact ⟨rfl, rfl⟩
    · refine WC_region ?_
      refine WL_det rfl (det_move) ?_
      dsimp only [put, List.take, List.drop, List.set, ev, nth, List.nil_append, List.cons_append, md, Nat.reducePow, Nat.reduceAdd, Nat.reduceMul]
      refine WL_det rfl (det_lenP Try.underlying52 rfl (fun w hw => RdP.far hw hL)) ?_
      dsimp only [put, List.take, List.drop, List.set, ev, nth, List.nil_append, List.cons_append, md, Nat.reducePow, Nat.reduceAdd, Nat.reduceMul]
      refine WL_det rfl (Det.bv false (det_gtr (q := 40) rfl rfl) (decide_eq_false h1)) ?_
      dsimp only [put, List.take, List.drop, List.set, ev, nth, List.nil_append, List.cons_append, md, Nat.reducePow, Nat.reduceAdd, Nat.reduceMul]
      refine WL_det rfl (det_move) ?_
      dsimp only [put, List.take, List.drop, List.set, ev, nth, List.nil_append, List.cons_append, md, Nat.reducePow, Nat.reduceAdd, Nat.reduceMul]
      refine WL_detG rfl (det_move) ?_
      dsimp only [put, List.take, List.drop, List.set, ev, nth, List.nil_append, List.cons_append, md, Nat.reducePow, Nat.reduceAdd, Nat.reduceMul]
      refine WL_detG rfl (det_lenR Try.underlying43 rfl (fun w hw => RdL.far hw hF) (iv_len F)) ?_
      dsimp only [put, List.take, List.drop, List.set, ev, nth, List.nil_append, List.cons_append, md, Nat.reducePow, Nat.reduceAdd, Nat.reduceMul]
      refine WL_detG rfl (Det.bv false (det_gtr (q := 20) rfl rfl) (decide_eq_false h2)) ?_
      dsimp only [put, List.take, List.drop, List.set, ev, nth, List.nil_append, List.cons_append, md, Nat.reducePow, Nat.reduceAdd, Nat.reduceMul]
      refine WL_det rfl (det_pick_false rfl) ?_
      dsimp only [put, List.take, List.drop, List.set, ev, nth, List.nil_append, List.cons_append, md, Nat.reducePow, Nat.reduceAdd, Nat.reduceMul]
      refine WL_nil ?_
      refine WC_cond_false rfl ?_
      refine WC_skip ?_
      refine WC_seq ?_
      refine WC_region ?_
      refine WL_det rfl (det_move) ?_
      dsimp only [put, List.take, List.drop, List.set, ev, nth, List.nil_append, List.cons_append, md, Nat.reducePow, Nat.reduceAdd, Nat.reduceMul]
      refine WL_chg rfl (Chg_call rfl Try.call24 (fun w hw => graph_spec L va (by omega) hw hL)) ?_
      rintro _ _ ⟨M, ⟨gb, rfl, hM⟩, rfl⟩
      dsimp only [put, setM, List.zip, List.zipWith, List.take, List.drop, List.append_nil, List.set, ev, nth, List.nil_append, List.cons_append, md, Nat.reducePow, Nat.reduceAdd, Nat.reduceMul]
      refine WL_det rfl (det_assign) ?_
      dsimp only [put, List.take, List.drop, List.set, ev, nth, List.nil_append, List.cons_append, md, Nat.reducePow, Nat.reduceAdd, Nat.reduceMul]
      refine WL_nil ?_
      refine WC_seq ?_
      by_cases hto : to ∉ (srch (onceE L) F).map Prod.fst
      · have hes : (onceE L).length ≤ 200 := by have := once_len L; omega
        refine WC_region ?_
        refine WL_det rfl (det_move) ?_
        dsimp only [put, List.take, List.drop, List.set, ev, nth, List.nil_append, List.cons_append, md, Nat.reducePow, Nat.reduceAdd, Nat.reduceMul]
        refine WL_det rfl (det_move) ?_
        dsimp only [put, List.take, List.drop, List.set, ev, nth, List.nil_append, List.cons_append, md, Nat.reducePow, Nat.reduceAdd, Nat.reduceMul]
        refine WL_det rfl (det_move) ?_
        dsimp only [put, List.take, List.drop, List.set, ev, nth, List.nil_append, List.cons_append, md, Nat.reducePow, Nat.reduceAdd, Nat.reduceMul]
        refine WL_rel rfl (Rel_call rfl Try.call25 (fun w hw => pathI_no gb _ F vb to hes (by omega) hto w (hM.facts hw) (RdL.far hw hF))) ?_
        rintro _ _ ⟨rfl, rfl⟩
        dsimp only [put, List.append_nil, List.set, ev, nth, List.nil_append, List.cons_append, md, Nat.reducePow, Nat.reduceAdd, Nat.reduceMul]
        try simp only [List.append_nil]
        refine WL_det rfl (det_move) ?_
        dsimp only [put, List.take, List.drop, List.set, ev, nth, List.nil_append, List.cons_append, md, Nat.reducePow, Nat.reduceAdd, Nat.reduceMul]
        refine WL_det rfl (det_extract rfl rfl) ?_
        dsimp only [put, List.take, List.drop, List.set, ev, nth, List.nil_append, List.cons_append, md, Nat.reducePow, Nat.reduceAdd, Nat.reduceMul]
        refine WL_det rfl (det_extract rfl rfl) ?_
        dsimp only [put, List.take, List.drop, List.set, ev, nth, List.nil_append, List.cons_append, md, Nat.reducePow, Nat.reduceAdd, Nat.reduceMul]
        refine WL_det rfl (det_assign) ?_
        dsimp only [put, List.take, List.drop, List.set, ev, nth, List.nil_append, List.cons_append, md, Nat.reducePow, Nat.reduceAdd, Nat.reduceMul]
        refine WL_det rfl (det_assign) ?_
        dsimp only [put, List.take, List.drop, List.set, ev, nth, List.nil_append, List.cons_append, md, Nat.reducePow, Nat.reduceAdd, Nat.reduceMul]
        refine WL_nil ?_
        refine WC_seq ?_
        refine WC_seq ?_
        refine WC_region ?_
        refine WL_det rfl (det_move) ?_
        dsimp only [put, List.take, List.drop, List.set, ev, nth, List.nil_append, List.cons_append, md, Nat.reducePow, Nat.reduceAdd, Nat.reduceMul]
        refine WL_det rfl (det_move) ?_
        dsimp only [put, List.take, List.drop, List.set, ev, nth, List.nil_append, List.cons_append, md, Nat.reducePow, Nat.reduceAdd, Nat.reduceMul]
        refine WL_det rfl (det_move) ?_
        dsimp only [put, List.take, List.drop, List.set, ev, nth, List.nil_append, List.cons_append, md, Nat.reducePow, Nat.reduceAdd, Nat.reduceMul]
        refine WL_relAt 0 rfl (Rel_call rfl Try.call27 (fun w hw => reachI_spec gb _ F vb hes (by omega) w (hM.facts hw) (RdL.far hw hF))) ?_
        rintro v2 _ ⟨e2, h2, rfl⟩
        dsimp only [put, List.append_nil, List.take, List.drop, List.set, ev, nth, List.nil_append, List.cons_append, md, Nat.reducePow, Nat.reduceAdd, Nat.reduceMul]
        try simp only [List.append_nil]
        refine WL_det rfl (det_move) ?_
        dsimp only [put, List.take, List.drop, List.set, ev, nth, List.nil_append, List.cons_append, md, Nat.reducePow, Nat.reduceAdd, Nat.reduceMul]
        refine WL_rel rfl (Rel_call rfl Try.call26 (fun w hw => in_b _ to v2 false (decide_eq_false hto) (by rw [List.length_map]; have := stA_len (onceE L) F (bndA (onceE L) F); have := nodes_len (onceE L); unfold srch; unfold bndA at *; omega) w (RowO.rd hw 0 rfl h2))) ?_
        rintro _ _ ⟨rfl, rfl⟩
        dsimp only [put, List.append_nil, List.set, ev, nth, List.nil_append, List.cons_append, md, Nat.reducePow, Nat.reduceAdd, Nat.reduceMul]
        try simp only [List.append_nil]
        refine WL_det rfl (Det.bv false (det_neqB rfl rfl Try.underlying4) (rfl)) ?_
        dsimp only [put, List.take, List.drop, List.set, ev, nth, List.nil_append, List.cons_append, md, Nat.reducePow, Nat.reduceAdd, Nat.reduceMul]
        refine WL_nil ?_
        refine WC_cond_false rfl ?_
        refine WC_skip ?_
        refine WC_seq ?_
        refine WC_seq ?_
        refine WC_region ?_
        refine WL_det rfl (det_move) ?_
        dsimp only [put, List.take, List.drop, List.set, ev, nth, List.nil_append, List.cons_append, md, Nat.reducePow, Nat.reduceAdd, Nat.reduceMul]
        refine WL_det rfl (det_not rfl) ?_
        dsimp only [put, List.take, List.drop, List.set, ev, nth, List.nil_append, List.cons_append, md, Nat.reducePow, Nat.reduceAdd, Nat.reduceMul]
        refine WL_nil ?_
        refine WC_cond_true rfl ?_
        refine WC_seq ?_
        refine WC_region ?_
        refine WL_det rfl (det_move) ?_
        dsimp only [put, List.take, List.drop, List.set, ev, nth, List.nil_append, List.cons_append, md, Nat.reducePow, Nat.reduceAdd, Nat.reduceMul]
        refine WL_det rfl (det_len Try.underlying43 rfl) ?_
        dsimp only [put, List.take, List.drop, List.set, ev, nth, List.nil_append, List.cons_append, md, Nat.reducePow, Nat.reduceAdd, Nat.reduceMul]
        refine WL_det rfl (Det.bv true (det_eql (q := 0) rfl rfl) (by decide)) ?_
        dsimp only [put, List.take, List.drop, List.set, ev, nth, List.nil_append, List.cons_append, md, Nat.reducePow, Nat.reduceAdd, Nat.reduceMul]
        refine WL_det rfl (det_assign) ?_
        dsimp only [put, List.take, List.drop, List.set, ev, nth, List.nil_append, List.cons_append, md, Nat.reducePow, Nat.reduceAdd, Nat.reduceMul]
        refine WL_nil ?_
        refine WC_ret ?_
        refine fin_tmp Try.results5 rfl ([]) (List.nil_sublist _) ?_
        exact ⟨rfl, rfl⟩
      · have hes : (onceE L).length ≤ 200 := by have := once_len L; omega
        have hto := Classical.not_not.1 hto
        have hok := (path_ok 0 hto).once_
        have hpl := path_len hto
        have hol := once_len L
        refine WC_region ?_
        refine WL_det rfl (det_move) ?_
        dsimp only [put, List.take, List.drop, List.set, ev, nth, List.nil_append, List.cons_append, md, Nat.reducePow, Nat.reduceAdd, Nat.reduceMul]
        refine WL_det rfl (det_move) ?_
        dsimp only [put, List.take, List.drop, List.set, ev, nth, List.nil_append, List.cons_append, md, Nat.reducePow, Nat.reduceAdd, Nat.reduceMul]
        refine WL_det rfl (det_move) ?_
        dsimp only [put, List.take, List.drop, List.set, ev, nth, List.nil_append, List.cons_append, md, Nat.reducePow, Nat.reduceAdd, Nat.reduceMul]
        refine WL_relAt 0 rfl (Rel_call rfl Try.call25 (fun w hw => pathI_yes gb _ F vb to hes (by omega) hto w (hM.facts hw) (RdL.far hw hF))) ?_
        rintro _ _ ⟨v1, e1, rfl, h1, rfl⟩
        generalize pathA (srch (onceE L) F) (((srch (onceE L) F).map Prod.fst).idxOf to) = p at *
        obtain ⟨pp, pc, rfl, hpc⟩ := h1.slice
        rw [iv_len] at h1 hpc ⊢
        have hpos := hok.pos
        dsimp only [put, List.append_nil, List.take, List.drop, List.set, ev, nth, List.nil_append, List.cons_append, md, Nat.reducePow, Nat.reduceAdd, Nat.reduceMul]
        try simp only [List.append_nil]
        refine WL_det rfl (det_move) ?_
        dsimp only [put, List.take, List.drop, List.set, ev, nth, List.nil_append, List.cons_append, md, Nat.reducePow, Nat.reduceAdd, Nat.reduceMul]
        refine WL_det rfl (det_extract rfl rfl) ?_
        dsimp only [put, List.take, List.drop, List.set, ev, nth, List.nil_append, List.cons_append, md, Nat.reducePow, Nat.reduceAdd, Nat.reduceMul]
        refine WL_det rfl (det_extract rfl rfl) ?_
        dsimp only [put, List.take, List.drop, List.set, ev, nth, List.nil_append, List.cons_append, md, Nat.reducePow, Nat.reduceAdd, Nat.reduceMul]
        refine WL_det rfl (det_assign) ?_
        dsimp only [put, List.take, List.drop, List.set, ev, nth, List.nil_append, List.cons_append, md, Nat.reducePow, Nat.reduceAdd, Nat.reduceMul]
        refine WL_det rfl (det_assign) ?_
        dsimp only [put, List.take, List.drop, List.set, ev, nth, List.nil_append, List.cons_append, md, Nat.reducePow, Nat.reduceAdd, Nat.reduceMul]
        refine WL_nil ?_
        refine WC_seq ?_
        refine WC_seq ?_
        refine WC_region ?_
        refine WL_det rfl (det_move) ?_
        dsimp only [put, List.take, List.drop, List.set, ev, nth, List.nil_append, List.cons_append, md, Nat.reducePow, Nat.reduceAdd, Nat.reduceMul]
        refine WL_det rfl (det_move) ?_
        dsimp only [put, List.take, List.drop, List.set, ev, nth, List.nil_append, List.cons_append, md, Nat.reducePow, Nat.reduceAdd, Nat.reduceMul]
        refine WL_det rfl (det_move) ?_
        dsimp only [put, List.take, List.drop, List.set, ev, nth, List.nil_append, List.cons_append, md, Nat.reducePow, Nat.reduceAdd, Nat.reduceMul]
        refine WL_relAt 1 rfl (Rel_call rfl Try.call27 (fun w hw => reachI_spec gb _ F vb hes (by omega) w (hM.facts (Has.dropN hw 1)) (RdL.far hw hF))) ?_
        rintro v2 _ ⟨e2, h2, rfl⟩
        dsimp only [put, List.append_nil, List.take, List.drop, List.set, ev, nth, List.nil_append, List.cons_append, md, Nat.reducePow, Nat.reduceAdd, Nat.reduceMul]
        try simp only [List.append_nil]
        refine WL_det rfl (det_move) ?_
        dsimp only [put, List.take, List.drop, List.set, ev, nth, List.nil_append, List.cons_append, md, Nat.reducePow, Nat.reduceAdd, Nat.reduceMul]
        refine WL_rel rfl (Rel_call rfl Try.call26 (fun w hw => in_b _ to v2 true (decide_eq_true hto) (by rw [List.length_map]; have := stA_len (onceE L) F (bndA (onceE L) F); have := nodes_len (onceE L); unfold srch; unfold bndA at *; omega) w (RowO.rd hw 1 rfl h2))) ?_
        rintro _ _ ⟨rfl, rfl⟩
        dsimp only [put, List.append_nil, List.set, ev, nth, List.nil_append, List.cons_append, md, Nat.reducePow, Nat.reduceAdd, Nat.reduceMul]
        try simp only [List.append_nil]
        refine WL_det rfl (Det.bv false (det_neqB rfl rfl Try.underlying4) (rfl)) ?_
        dsimp only [put, List.take, List.drop, List.set, ev, nth, List.nil_append, List.cons_append, md, Nat.reducePow, Nat.reduceAdd, Nat.reduceMul]
        refine WL_nil ?_
        refine WC.forget (.cons_cons _ (.cons _ (List.Sublist.refl _))) ?_
        refine WC_cond_false rfl ?_
        refine WC_skip ?_
        refine WC_seq ?_
        refine WC_seq ?_
        refine WC_region ?_
        refine WL_det rfl (det_move) ?_
        dsimp only [put, List.take, List.drop, List.set, ev, nth, List.nil_append, List.cons_append, md, Nat.reducePow, Nat.reduceAdd, Nat.reduceMul]
        refine WL_det rfl (det_not rfl) ?_
        dsimp only [put, List.take, List.drop, List.set, ev, nth, List.nil_append, List.cons_append, md, Nat.reducePow, Nat.reduceAdd, Nat.reduceMul]
        refine WL_nil ?_
        refine WC_cond_false rfl ?_
        refine WC_skip ?_
        refine WC_seq ?_
        refine WC_seq ?_
        by_cases hp1 : 1 < p.length
        · refine WC_region ?_
          refine WL_det rfl (det_move) ?_
          dsimp only [put, List.take, List.drop, List.set, ev, nth, List.nil_append, List.cons_append, md, Nat.reducePow, Nat.reduceAdd, Nat.reduceMul]
          refine WL_det rfl (det_lenR Try.underlying43 rfl (fun w hw => RowO.rd hw 0 rfl h1) (iv_len p)) ?_
          dsimp only [put, List.take, List.drop, List.set, ev, nth, List.nil_append, List.cons_append, md, Nat.reducePow, Nat.reduceAdd, Nat.reduceMul]
          refine WL_det rfl (Det.bv false (det_lss (q := 1) rfl rfl) (decide_eq_false (by omega))) ?_
          dsimp only [put, List.take, List.drop, List.set, ev, nth, List.nil_append, List.cons_append, md, Nat.reducePow, Nat.reduceAdd, Nat.reduceMul]
          refine WL_det rfl (det_move) ?_
          dsimp only [put, List.take, List.drop, List.set, ev, nth, List.nil_append, List.cons_append, md, Nat.reducePow, Nat.reduceAdd, Nat.reduceMul]
          refine WL_detG rfl (det_move) ?_
          dsimp only [put, List.take, List.drop, List.set, ev, nth, List.nil_append, List.cons_append, md, Nat.reducePow, Nat.reduceAdd, Nat.reduceMul]
          refine WL_detG rfl (det_move) ?_
          dsimp only [put, List.take, List.drop, List.set, ev, nth, List.nil_append, List.cons_append, md, Nat.reducePow, Nat.reduceAdd, Nat.reduceMul]
          refine WL_detG rfl (det_idxR (j := 0) Try.underlying43 Try.sizeOf3 rfl rfl (rfl) (by rw [iv_len]; exact hpos) (fun w hw => RowO.rd hw 0 rfl h1)) ?_
          dsimp only [put, List.take, List.drop, List.set, ev, nth, List.nil_append, List.cons_append, md, Nat.reducePow, Nat.reduceAdd, Nat.reduceMul]
          refine WL_detG rfl (det_loadR Try.isAgg3 rfl (fun w hw => RowO.rd hw 0 rfl h1) (iv_at p (hpos))) ?_
          dsimp only [put, List.take, List.drop, List.set, ev, nth, List.nil_append, List.cons_append, md, Nat.reducePow, Nat.reduceAdd, Nat.reduceMul]
          refine WL_relG rfl (Rel_call rfl Try.call26 (fun w hw => in_b F (p.getD 0 0) vb true (decide_eq_true hok.first) (by omega) w (RdL.far hw hF))) ?_
          rintro _ _ ⟨rfl, rfl⟩
          dsimp only [put, List.append_nil, List.set, ev, nth, List.nil_append, List.cons_append, md, Nat.reducePow, Nat.reduceAdd, Nat.reduceMul]
          try simp only [List.append_nil]
          refine WL_detG rfl (Det.bv false (det_not rfl) (rfl)) ?_
          dsimp only [put, List.take, List.drop, List.set, ev, nth, List.nil_append, List.cons_append, md, Nat.reducePow, Nat.reduceAdd, Nat.reduceMul]
          refine WL_det rfl (det_pick_false rfl) ?_
          dsimp only [put, List.take, List.drop, List.set, ev, nth, List.nil_append, List.cons_append, md, Nat.reducePow, Nat.reduceAdd, Nat.reduceMul]
          refine WL_det rfl (det_move) ?_
          dsimp only [put, List.take, List.drop, List.set, ev, nth, List.nil_append, List.cons_append, md, Nat.reducePow, Nat.reduceAdd, Nat.reduceMul]
          refine WL_detG rfl (det_move) ?_
          dsimp only [put, List.take, List.drop, List.set, ev, nth, List.nil_append, List.cons_append, md, Nat.reducePow, Nat.reduceAdd, Nat.reduceMul]
          refine WL_detG rfl (det_move) ?_
          dsimp only [put, List.take, List.drop, List.set, ev, nth, List.nil_append, List.cons_append, md, Nat.reducePow, Nat.reduceAdd, Nat.reduceMul]
          refine WL_detG rfl (det_lenR Try.underlying43 rfl (fun w hw => RowO.rd hw 0 rfl h1) (iv_len p)) ?_
          dsimp only [put, List.take, List.drop, List.set, ev, nth, List.nil_append, List.cons_append, md, Nat.reducePow, Nat.reduceAdd, Nat.reduceMul]
          refine WL_detG rfl (det_subi (q := 1) rfl rfl (by omega) (by omega)) ?_
          dsimp only [put, List.take, List.drop, List.set, ev, nth, List.nil_append, List.cons_append, md, Nat.reducePow, Nat.reduceAdd, Nat.reduceMul]
          refine WL_detG rfl (det_idxR Try.underlying43 Try.sizeOf3 rfl rfl (rfl) (by rw [iv_len]; omega) (fun w hw => RowO.rd hw 0 rfl h1)) ?_
          dsimp only [put, List.take, List.drop, List.set, ev, nth, List.nil_append, List.cons_append, md, Nat.reducePow, Nat.reduceAdd, Nat.reduceMul]
          refine WL_detG rfl (det_loadR Try.isAgg3 rfl (fun w hw => RowO.rd hw 0 rfl h1) (iv_at p (by omega))) ?_
          dsimp only [put, List.take, List.drop, List.set, ev, nth, List.nil_append, List.cons_append, md, Nat.reducePow, Nat.reduceAdd, Nat.reduceMul]
          refine WL_detG rfl (det_move) ?_
          dsimp only [put, List.take, List.drop, List.set, ev, nth, List.nil_append, List.cons_append, md, Nat.reducePow, Nat.reduceAdd, Nat.reduceMul]
          refine WL_detG rfl (Det.bv false (det_neqz rfl rfl) (by rw [hok.last]; simp)) ?_
          dsimp only [put, List.take, List.drop, List.set, ev, nth, List.nil_append, List.cons_append, md, Nat.reducePow, Nat.reduceAdd, Nat.reduceMul]
          refine WL_det rfl (det_pick_false rfl) ?_
          dsimp only [put, List.take, List.drop, List.set, ev, nth, List.nil_append, List.cons_append, md, Nat.reducePow, Nat.reduceAdd, Nat.reduceMul]
          refine WL_det rfl (det_move) ?_
          dsimp only [put, List.take, List.drop, List.set, ev, nth, List.nil_append, List.cons_append, md, Nat.reducePow, Nat.reduceAdd, Nat.reduceMul]
          refine WL_detG rfl (det_move) ?_
          dsimp only [put, List.take, List.drop, List.set, ev, nth, List.nil_append, List.cons_append, md, Nat.reducePow, Nat.reduceAdd, Nat.reduceMul]
          refine WL_detG rfl (det_lenR Try.underlying43 rfl (fun w hw => RowO.rd hw 0 rfl h1) (iv_len p)) ?_
          dsimp only [put, List.take, List.drop, List.set, ev, nth, List.nil_append, List.cons_append, md, Nat.reducePow, Nat.reduceAdd, Nat.reduceMul]
          refine WL_detG rfl (Det.bv true (det_gtr (q := 1) rfl rfl) (decide_eq_true hp1)) ?_
          dsimp only [put, List.take, List.drop, List.set, ev, nth, List.nil_append, List.cons_append, md, Nat.reducePow, Nat.reduceAdd, Nat.reduceMul]
          refine WL_detG rfl (det_move) ?_
          dsimp only [put, List.take, List.drop, List.set, ev, nth, List.nil_append, List.cons_append, md, Nat.reducePow, Nat.reduceAdd, Nat.reduceMul]
          refine WL_detG rfl (det_move) ?_
          dsimp only [put, List.take, List.drop, List.set, ev, nth, List.nil_append, List.cons_append, md, Nat.reducePow, Nat.reduceAdd, Nat.reduceMul]
          refine WL_detG rfl (det_move) ?_
          dsimp only [put, List.take, List.drop, List.set, ev, nth, List.nil_append, List.cons_append, md, Nat.reducePow, Nat.reduceAdd, Nat.reduceMul]
          refine WL_relG rfl (Rel_call rfl Try.call26 (fun w hw => in_b F to vb false (decide_eq_false (hok.seed hp1)) (by omega) w (RdL.far hw hF))) ?_
          rintro _ _ ⟨rfl, rfl⟩
          dsimp only [put, List.append_nil, List.set, ev, nth, List.nil_append, List.cons_append, md, Nat.reducePow, Nat.reduceAdd, Nat.reduceMul]
          try simp only [List.append_nil]
          refine WL_detG rfl (det_pick_true rfl) ?_
          dsimp only [put, List.take, List.drop, List.set, ev, nth, List.nil_append, List.cons_append, md, Nat.reducePow, Nat.reduceAdd, Nat.reduceMul]
          refine WL_det rfl (det_pick_false rfl) ?_
          dsimp only [put, List.take, List.drop, List.set, ev, nth, List.nil_append, List.cons_append, md, Nat.reducePow, Nat.reduceAdd, Nat.reduceMul]
          refine WL_nil ?_
          refine WC_cond_false rfl ?_
          refine WC_skip ?_
          refine WC_seq ?_
          refine WC_seq ?_
          refine WC_region ?_
          refine WL_det rfl (det_assign) ?_
          dsimp only [put, List.take, List.drop, List.set, ev, nth, List.nil_append, List.cons_append, md, Nat.reducePow, Nat.reduceAdd, Nat.reduceMul]
          refine WL_nil ?_
          refine WC_block ?_
          refine WC_loopS (ι := Nat) [76, 77, 78, 79, 11, 82, 83, 84, 85, 86, 87, 13, 88, 89, 90, 91, 92, 93, 94, 95, 96, 97, 98, 99, 100, 101, 102, 103, 104, 105, 106, 107, 108, 109, 110, 111, 112, 113, 114, 115, 116, 117, 118, 119, 120, 121, 122, 123, 124, 6, 125, 126, 127, 128, 129, 130, 131, 132, 133, 134, 135, 136, 137, 80, 81] (fun i => [(10, vn .i64 (i))]) (fun i => []) (fun i => 1 ≤ i ∧ i ≤ p.length) (fun i => p.length - i) 1 ?_ ?_ ?_ ?_
          · rfl
          · rfl
          · exact ⟨Nat.le_refl _, hpos⟩
          · rintro i g' ⟨hi1, hi2⟩
            dsimp only [setAll, setG, setM, List.set]
            refine WC_seq ?_
            refine WC_seq ?_
            refine WC_region ?_
            refine WL_det rfl (det_move) ?_
            dsimp only [put, List.take, List.drop, List.set, ev, nth, List.nil_append, List.cons_append, md, Nat.reducePow, Nat.reduceAdd, Nat.reduceMul]
            refine WL_det rfl (det_move) ?_
            dsimp only [put, List.take, List.drop, List.set, ev, nth, List.nil_append, List.cons_append, md, Nat.reducePow, Nat.reduceAdd, Nat.reduceMul]
            refine WL_det rfl (det_lenR Try.underlying43 rfl (fun w hw => RowO.rd hw 0 rfl h1) (iv_len p)) ?_
            dsimp only [put, List.take, List.drop, List.set, ev, nth, List.nil_append, List.cons_append, md, Nat.reducePow, Nat.reduceAdd, Nat.reduceMul]
            refine WL_det rfl (det_lss rfl rfl) ?_
            dsimp only [put, List.take, List.drop, List.set, ev, nth, List.nil_append, List.cons_append, md, Nat.reducePow, Nat.reduceAdd, Nat.reduceMul]
            refine WL_nil ?_
            refine WC_cond rfl (fun hc5 => ?_) (fun hc5 => ?_)
            · have hc5 := of_decide_eq_true hc5
              refine WC_skip ?_
              refine WC_seq ?_
              refine WC_block ?_
              refine WC_seq ?_
              refine WC_region ?_
              refine WL_det rfl (det_assign) ?_
              dsimp only [put, List.take, List.drop, List.set, ev, nth, List.nil_append, List.cons_append, md, Nat.reducePow, Nat.reduceAdd, Nat.reduceMul]
              refine WL_nil ?_
              refine WC_seq ?_
              refine WC_seq ?_
              refine WC_region ?_
              refine WL_det rfl (det_move) ?_
              dsimp only [put, List.take, List.drop, List.set, ev, nth, List.nil_append, List.cons_append, md, Nat.reducePow, Nat.reduceAdd, Nat.reduceMul]
              refine WL_det rfl (det_lenP Try.underlying52 rfl (fun w hw => RdP.far hw hL)) ?_
              dsimp only [put, List.take, List.drop, List.set, ev, nth, List.nil_append, List.cons_append, md, Nat.reducePow, Nat.reduceAdd, Nat.reduceMul]
              refine WL_det rfl (det_move) ?_
              dsimp only [put, List.take, List.drop, List.set, ev, nth, List.nil_append, List.cons_append, md, Nat.reducePow, Nat.reduceAdd, Nat.reduceMul]
              refine WL_nil ?_
              refine WC_block ?_
              refine WC_loopS (ι := Nat) [85, 86, 87, 13, 88, 89, 90, 91, 92, 93, 94, 95, 96, 97, 98, 99, 100, 101, 102, 103, 104, 105, 106, 107, 108, 109, 110, 111, 112, 113, 114, 115, 116, 117, 118, 119, 120, 121, 122, 123, 124, 6, 125] (fun q => [(84, vn .i64 (q)), (11, .bool (decide ((p.getD (i - 1) 0, p.getD i 0) ∈ L.take q)))]) (fun q => []) (fun q => q ≤ L.length) (fun q => L.length - q) 0 ?_ ?_ ?_ ?_
              · rw [show decide ((p.getD (i - 1) 0, p.getD i 0) ∈ L.take 0) = false from decide_eq_false (by simp)]
                rfl
              · rfl
              · exact Nat.zero_le _
              · rintro q g'' hq
                dsimp only [setAll, setG, setM, List.set]
                refine WC_seq ?_
                refine WC_region ?_
                refine WL_det rfl (det_lss rfl rfl) ?_
                dsimp only [put, List.take, List.drop, List.set, ev, nth, List.nil_append, List.cons_append, md, Nat.reducePow, Nat.reduceAdd, Nat.reduceMul]
                refine WL_nil ?_
                refine WC_seq ?_
                refine WC_cond rfl (fun hc6 => ?_) (fun hc6 => ?_)
                · have hc6 := of_decide_eq_true hc6
                  refine WC_skip ?_
                  refine WC_seq ?_
                  refine WC_block ?_
                  refine WC_seq ?_
                  refine WC_region ?_
                  refine WL_det rfl (det_idxP Try.underlying52 Try.sizeOf59 rfl rfl (rfl) (by omega) (fun w hw => RdP.far hw hL)) ?_
                  dsimp only [put, List.take, List.drop, List.set, ev, nth, List.nil_append, List.cons_append, md, Nat.reducePow, Nat.reduceAdd, Nat.reduceMul]
                  refine WL_det rfl (det_loadP Try.underlying59 rfl i59 rfl (fun w hw => RdP.far hw hL) (by omega)) ?_
                  dsimp only [put, List.take, List.drop, List.set, ev, nth, List.nil_append, List.cons_append, md, Nat.reducePow, Nat.reduceAdd, Nat.reduceMul]
                  refine WL_relAt 1 rfl (rel_alloc Try.zeroValue59 rfl) ?_
                  rintro _ _ ⟨b1, rfl, rfl⟩
                  dsimp only [put, List.take, List.drop, List.set, ev, nth, List.nil_append, List.cons_append, md, Nat.reducePow, Nat.reduceAdd, Nat.reduceMul]
                  refine WL_chg rfl (chg_storeWn 1 _ rfl rfl rfl Try.sizeOf59 rfl rfl rfl (pk_one _)) ?_
                  rintro _ _ rfl
                  dsimp only [put, List.take, List.drop, List.set, ev, nth, List.nil_append, List.cons_append, md, Nat.reducePow, Nat.reduceAdd, Nat.reduceMul]
                  refine WL_nil ?_
                  refine WC_seq ?_
                  by_cases hA : (p.getD (i - 1) 0, p.getD i 0) ∈ L.take q
                  · rw [decide_eq_true hA]
                    refine WC_draw [[], [0], [0, 1], [0, 1, 2], [0, 1], [0, 1], [0, 1, 5], [0, 1, 4, 5, 6], [0, 1, 4, 5, 6, 7], [0, 1, 2, 3, 4, 5, 6, 7, 8], [0, 1, 2, 3, 4, 5, 6, 7, 8, 9], [0, 1, 2, 3, 4, 5, 6, 7, 8, 9, 10], [0, 1, 2, 3, 4, 5, 6, 7, 8, 9, 10, 11], [0, 1, 2, 3, 4, 5, 6, 7, 8, 9, 10], [0, 1, 2, 3, 4, 5, 6, 7, 8, 9, 10], [0, 1, 2, 3, 4, 5, 6, 7, 8, 9, 10, 13, 14], [0, 1, 2, 3, 4, 5, 6, 7, 8, 9, 10, 13, 14, 15], [0, 1, 2, 3, 4, 5, 6, 7, 8, 9, 10, 11, 12, 13, 14, 15, 16], [0, 1, 2, 3, 4, 5, 6, 7, 8, 9, 10, 11, 12, 13, 14, 15, 16, 17], [0, 1, 2, 3, 4, 5, 6, 7, 8, 9, 10, 11, 12, 13, 14, 15, 16, 17, 18], [0, 1, 2, 3, 4, 5, 6, 7, 8, 9, 10, 11, 12, 13, 14, 15, 16, 17, 18, 19]] [] 138 [] (List.nil_sublist _) mixed rfl (by decide) ?_
                    refine RW.pure rfl rfl (fun _ => rfl) (fun V hV => det_move) (fun _ _ _ => rfl) ?_
                    dsimp only [put, List.set, ev, nth, List.nil_append, List.cons_append, md, Nat.reducePow, Nat.reduceAdd, Nat.reduceMul]
                    refine RW.pure rfl rfl (fun _ => rfl) (fun V hV => det_move) (fun _ _ _ => rfl) ?_
                    dsimp only [put, List.set, ev, nth, List.nil_append, List.cons_append, md, Nat.reducePow, Nat.reduceAdd, Nat.reduceMul]
                    refine RW.skip rfl rfl (fun _ => rfl) ?_
                    dsimp only [put, List.set, ev, nth, List.nil_append, List.cons_append, md, Nat.reducePow, Nat.reduceAdd, Nat.reduceMul]
                    refine RW.skip rfl rfl (fun _ => rfl) ?_
                    dsimp only [put, List.set, ev, nth, List.nil_append, List.cons_append, md, Nat.reducePow, Nat.reduceAdd, Nat.reduceMul]
                    refine RW.skip rfl rfl (fun _ => rfl) ?_
                    dsimp only [put, List.set, ev, nth, List.nil_append, List.cons_append, md, Nat.reducePow, Nat.reduceAdd, Nat.reduceMul]
                    refine RW.skip rfl rfl (fun _ => rfl) ?_
                    dsimp only [put, List.set, ev, nth, List.nil_append, List.cons_append, md, Nat.reducePow, Nat.reduceAdd, Nat.reduceMul]
                    refine RW.skip rfl rfl (fun _ => rfl) ?_
                    dsimp only [put, List.set, ev, nth, List.nil_append, List.cons_append, md, Nat.reducePow, Nat.reduceAdd, Nat.reduceMul]
                    refine RW.skip rfl rfl (fun _ => rfl) ?_
                    dsimp only [put, List.set, ev, nth, List.nil_append, List.cons_append, md, Nat.reducePow, Nat.reduceAdd, Nat.reduceMul]
                    refine RW.skip rfl rfl (fun _ => rfl) ?_
                    dsimp only [put, List.set, ev, nth, List.nil_append, List.cons_append, md, Nat.reducePow, Nat.reduceAdd, Nat.reduceMul]
                    refine RW.skip rfl rfl (fun _ => rfl) ?_
                    dsimp only [put, List.set, ev, nth, List.nil_append, List.cons_append, md, Nat.reducePow, Nat.reduceAdd, Nat.reduceMul]
                    refine RW.skip rfl rfl (fun _ => rfl) ?_
                    dsimp only [put, List.set, ev, nth, List.nil_append, List.cons_append, md, Nat.reducePow, Nat.reduceAdd, Nat.reduceMul]
                    refine RW.skip rfl rfl (fun _ => rfl) ?_
                    dsimp only [put, List.set, ev, nth, List.nil_append, List.cons_append, md, Nat.reducePow, Nat.reduceAdd, Nat.reduceMul]
                    refine RW.skip rfl rfl (fun _ => rfl) ?_
                    dsimp only [put, List.set, ev, nth, List.nil_append, List.cons_append, md, Nat.reducePow, Nat.reduceAdd, Nat.reduceMul]
                    refine RW.skip rfl rfl (fun _ => rfl) ?_
                    dsimp only [put, List.set, ev, nth, List.nil_append, List.cons_append, md, Nat.reducePow, Nat.reduceAdd, Nat.reduceMul]
                    refine RW.skip rfl rfl (fun _ => rfl) ?_
                    dsimp only [put, List.set, ev, nth, List.nil_append, List.cons_append, md, Nat.reducePow, Nat.reduceAdd, Nat.reduceMul]
                    refine RW.skip rfl rfl (fun _ => rfl) ?_
                    dsimp only [put, List.set, ev, nth, List.nil_append, List.cons_append, md, Nat.reducePow, Nat.reduceAdd, Nat.reduceMul]
                    refine RW.skip rfl rfl (fun _ => rfl) ?_
                    dsimp only [put, List.set, ev, nth, List.nil_append, List.cons_append, md, Nat.reducePow, Nat.reduceAdd, Nat.reduceMul]
                    refine RW.skip rfl rfl (fun _ => rfl) ?_
                    dsimp only [put, List.set, ev, nth, List.nil_append, List.cons_append, md, Nat.reducePow, Nat.reduceAdd, Nat.reduceMul]
                    refine RW.skip rfl rfl (fun _ => rfl) ?_
                    dsimp only [put, List.set, ev, nth, List.nil_append, List.cons_append, md, Nat.reducePow, Nat.reduceAdd, Nat.reduceMul]
                    refine RW.pure rfl rfl (fun _ => rfl) (fun V hV => Det.bv (decide ((p.getD (i - 1) 0, p.getD i 0) ∈ L.take (q + 1))) (det_pick_true rfl) ((decide_eq_true ((take_mem (by omega) _).2 (.inl hA))).symm)) (fun _ _ _ => rfl) ?_
                    dsimp only [put, List.set, ev, nth, List.nil_append, List.cons_append, md, Nat.reducePow, Nat.reduceAdd, Nat.reduceMul]
                    refine RW.pure rfl rfl (fun _ => rfl) (fun V hV => det_assign) (fun _ _ _ => rfl) ?_
                    dsimp only [put, List.set, ev, nth, List.nil_append, List.cons_append, md, Nat.reducePow, Nat.reduceAdd, Nat.reduceMul]
                    refine RW.done (fun V => _ ++ flat [] V) rfl rfl (fun _ => rfl) (fun V hV => ?_)
                    try simp only [flat_nil, List.append_nil]
                    try dsimp only [put, blk, flat_nil, List.append_nil, List.append, List.eraseIdx, List.set, ev, nth, List.nil_append, List.cons_append, md, Nat.reducePow, Nat.reduceAdd, Nat.reduceMul]
                    refine WC_seq ?_
                    by_cases hC : (L.getD q (0, 0)).1 ≠ p.getD 0 0
                    · refine WC_draw [[], [0], [], [2], [2, 3], [0, 1, 2, 3, 4], [0, 1, 2, 3, 4, 5], [0, 1, 2, 3, 4, 5, 6], [0, 1, 2, 3, 4, 5, 6, 7], [0, 1, 2, 3, 4, 5, 6], [0, 1, 2, 3, 4, 5, 6, 7, 8, 9], [0, 1, 2, 3, 4, 5, 6, 7, 8, 9, 10], [0, 1, 2, 3, 4, 5, 6, 7, 8, 9, 10, 11], [0, 1, 2, 3, 4, 5, 6, 7, 8, 9, 10, 11, 12], [0, 1, 2, 3, 4, 5, 6, 7, 8, 9, 10, 11, 12, 13], [0, 1, 2, 3, 4, 5, 6, 7, 8, 9, 10, 11, 12, 13, 14], [0, 1, 2, 3, 4, 5, 6, 7, 8, 9, 10, 11, 12, 13, 14, 15]] [] 138 [] (List.nil_sublist _) mixed rfl (by decide) ?_
                      refine RW.pure rfl rfl (fun _ => rfl) (fun V hV => det_idxA (j := 0) Try.underlying59 Try.sizeOf3 rfl rfl (rfl) (by omega)) (fun _ _ _ => rfl) ?_
                      dsimp only [put, List.set, ev, nth, List.nil_append, List.cons_append, md, Nat.reducePow, Nat.reduceAdd, Nat.reduceMul]
                      refine RW.det [] rfl rfl rfl rfl (fun _ => rfl) (fun V hV => Det.rel (det_load 1 Try.isAgg3 rfl rfl rfl)) (fun _ _ _ => rfl) ?_
                      dsimp only [put, List.set, ev, nth, List.nil_append, List.cons_append, md, Nat.reducePow, Nat.reduceAdd, Nat.reduceMul]
                      refine RW.pure rfl rfl (fun _ => rfl) (fun V hV => det_move) (fun _ _ _ => rfl) ?_
                      dsimp only [put, List.set, ev, nth, List.nil_append, List.cons_append, md, Nat.reducePow, Nat.reduceAdd, Nat.reduceMul]
                      refine RW.det [] rfl rfl rfl rfl (fun _ => rfl) (fun V hV => Det.rel (det_idxR (j := 0) Try.underlying43 Try.sizeOf3 rfl rfl (rfl) (by rw [iv_len]; omega) (fun w hw => RowO.rd hw 0 rfl h1))) (fun _ _ _ => rfl) ?_
                      dsimp only [put, List.set, ev, nth, List.nil_append, List.cons_append, md, Nat.reducePow, Nat.reduceAdd, Nat.reduceMul]
                      refine RW.det [] rfl rfl rfl rfl (fun _ => rfl) (fun V hV => Det.rel (det_loadR Try.isAgg3 rfl (fun w hw => RowO.rd hw 0 rfl h1) (iv_at p (by omega)))) (fun _ _ _ => rfl) ?_
                      dsimp only [put, List.set, ev, nth, List.nil_append, List.cons_append, md, Nat.reducePow, Nat.reduceAdd, Nat.reduceMul]
                      refine RW.pure rfl rfl (fun _ => rfl) (fun V hV => Det.bv false (det_eqlz rfl rfl) (decide_eq_false hC)) (fun _ _ _ => rfl) ?_
                      dsimp only [put, List.set, ev, nth, List.nil_append, List.cons_append, md, Nat.reducePow, Nat.reduceAdd, Nat.reduceMul]
                      refine RW.pure rfl rfl (fun _ => rfl) (fun V hV => det_move) (fun _ _ _ => rfl) ?_
                      dsimp only [put, List.set, ev, nth, List.nil_append, List.cons_append, md, Nat.reducePow, Nat.reduceAdd, Nat.reduceMul]
                      refine RW.skip rfl rfl (fun _ => rfl) ?_
                      dsimp only [put, List.set, ev, nth, List.nil_append, List.cons_append, md, Nat.reducePow, Nat.reduceAdd, Nat.reduceMul]
                      refine RW.skip rfl rfl (fun _ => rfl) ?_
                      dsimp only [put, List.set, ev, nth, List.nil_append, List.cons_append, md, Nat.reducePow, Nat.reduceAdd, Nat.reduceMul]
                      refine RW.skip rfl rfl (fun _ => rfl) ?_
                      dsimp only [put, List.set, ev, nth, List.nil_append, List.cons_append, md, Nat.reducePow, Nat.reduceAdd, Nat.reduceMul]
                      refine RW.skip rfl rfl (fun _ => rfl) ?_
                      dsimp only [put, List.set, ev, nth, List.nil_append, List.cons_append, md, Nat.reducePow, Nat.reduceAdd, Nat.reduceMul]
                      refine RW.pure rfl rfl (fun _ => rfl) (fun V hV => det_pick_false rfl) (fun _ _ _ => rfl) ?_
                      dsimp only [put, List.set, ev, nth, List.nil_append, List.cons_append, md, Nat.reducePow, Nat.reduceAdd, Nat.reduceMul]
                      refine RW.pure rfl rfl (fun _ => rfl) (fun V hV => det_move) (fun _ _ _ => rfl) ?_
                      dsimp only [put, List.set, ev, nth, List.nil_append, List.cons_append, md, Nat.reducePow, Nat.reduceAdd, Nat.reduceMul]
                      refine RW.skip rfl rfl (fun _ => rfl) ?_
                      dsimp only [put, List.set, ev, nth, List.nil_append, List.cons_append, md, Nat.reducePow, Nat.reduceAdd, Nat.reduceMul]
                      refine RW.skip rfl rfl (fun _ => rfl) ?_
                      dsimp only [put, List.set, ev, nth, List.nil_append, List.cons_append, md, Nat.reducePow, Nat.reduceAdd, Nat.reduceMul]
                      refine RW.skip rfl rfl (fun _ => rfl) ?_
                      dsimp only [put, List.set, ev, nth, List.nil_append, List.cons_append, md, Nat.reducePow, Nat.reduceAdd, Nat.reduceMul]
                      refine RW.pure rfl rfl (fun _ => rfl) (fun V hV => det_pick_false rfl) (fun _ _ _ => rfl) ?_
                      dsimp only [put, List.set, ev, nth, List.nil_append, List.cons_append, md, Nat.reducePow, Nat.reduceAdd, Nat.reduceMul]
                      refine RW.done (fun V => _ ++ flat [] V) rfl rfl (fun _ => rfl) (fun V hV => ?_)
                      try simp only [flat_nil, List.append_nil]
                      try dsimp only [put, blk, flat_nil, List.append_nil, List.append, List.eraseIdx, List.set, ev, nth, List.nil_append, List.cons_append, md, Nat.reducePow, Nat.reduceAdd, Nat.reduceMul]
                      refine WC.forget (.cons_cons _ (.cons _ (List.Sublist.refl _))) ?_
                      refine WC_cond_false rfl ?_
                      refine WC_skip ?_
                      refine WC_region ?_
                      refine WL_det rfl (det_addi (q := 1) rfl rfl (by omega)) ?_
                      dsimp only [put, List.take, List.drop, List.set, ev, nth, List.nil_append, List.cons_append, md, Nat.reducePow, Nat.reduceAdd, Nat.reduceMul]
                      refine WL_det rfl (det_move) ?_
                      dsimp only [put, List.take, List.drop, List.set, ev, nth, List.nil_append, List.cons_append, md, Nat.reducePow, Nat.reduceAdd, Nat.reduceMul]
                      refine WL_nil ?_
                      refine ⟨q + 1, ?_, ?_, ?_, ?_⟩
                      · rfl
                      · rfl
                      · omega
                      · omega
                    · by_cases hD : (L.getD q (0, 0)).2 = to
                      · have hC := Classical.not_not.1 hC
                        refine WC_draw [[], [0], [], [2], [2, 3], [0, 1, 2, 3, 4], [0, 1, 2, 3, 4, 5], [0, 1, 2, 3, 4, 5, 6], [0, 1, 2, 3, 4, 5, 6, 7], [0, 1, 2, 3, 4, 5, 6], [0, 1, 2, 3, 4, 5, 6, 7, 8, 9], [0, 1, 2, 3, 4, 5, 6, 7, 8, 9, 10], [0, 1, 2, 3, 4, 5, 6, 7, 8, 9, 10, 11], [0, 1, 2, 3, 4, 5, 6, 7, 8, 9, 10, 11, 12], [0, 1, 2, 3, 4, 5, 6, 7, 8, 9, 10, 11, 12, 13], [0, 1, 2, 3, 4, 5, 6, 7, 8, 9, 10, 11, 12, 13, 14], [0, 1, 2, 3, 4, 5, 6, 7, 8, 9, 10, 11, 12, 13, 14, 15]] [] 138 [] (List.nil_sublist _) mixed rfl (by decide) ?_
                        refine RW.pure rfl rfl (fun _ => rfl) (fun V hV => det_idxA (j := 0) Try.underlying59 Try.sizeOf3 rfl rfl (rfl) (by omega)) (fun _ _ _ => rfl) ?_
                        dsimp only [put, List.set, ev, nth, List.nil_append, List.cons_append, md, Nat.reducePow, Nat.reduceAdd, Nat.reduceMul]
                        refine RW.det [] rfl rfl rfl rfl (fun _ => rfl) (fun V hV => Det.rel (det_load 1 Try.isAgg3 rfl rfl rfl)) (fun _ _ _ => rfl) ?_
                        dsimp only [put, List.set, ev, nth, List.nil_append, List.cons_append, md, Nat.reducePow, Nat.reduceAdd, Nat.reduceMul]
                        refine RW.pure rfl rfl (fun _ => rfl) (fun V hV => det_move) (fun _ _ _ => rfl) ?_
                        dsimp only [put, List.set, ev, nth, List.nil_append, List.cons_append, md, Nat.reducePow, Nat.reduceAdd, Nat.reduceMul]
                        refine RW.det [] rfl rfl rfl rfl (fun _ => rfl) (fun V hV => Det.rel (det_idxR (j := 0) Try.underlying43 Try.sizeOf3 rfl rfl (rfl) (by rw [iv_len]; omega) (fun w hw => RowO.rd hw 0 rfl h1))) (fun _ _ _ => rfl) ?_
                        dsimp only [put, List.set, ev, nth, List.nil_append, List.cons_append, md, Nat.reducePow, Nat.reduceAdd, Nat.reduceMul]
                        refine RW.det [] rfl rfl rfl rfl (fun _ => rfl) (fun V hV => Det.rel (det_loadR Try.isAgg3 rfl (fun w hw => RowO.rd hw 0 rfl h1) (iv_at p (by omega)))) (fun _ _ _ => rfl) ?_
                        dsimp only [put, List.set, ev, nth, List.nil_append, List.cons_append, md, Nat.reducePow, Nat.reduceAdd, Nat.reduceMul]
                        refine RW.pure rfl rfl (fun _ => rfl) (fun V hV => Det.bv true (det_eqlz rfl rfl) (decide_eq_true hC)) (fun _ _ _ => rfl) ?_
                        dsimp only [put, List.set, ev, nth, List.nil_append, List.cons_append, md, Nat.reducePow, Nat.reduceAdd, Nat.reduceMul]
                        refine RW.pure rfl rfl (fun _ => rfl) (fun V hV => det_move) (fun _ _ _ => rfl) ?_
                        dsimp only [put, List.set, ev, nth, List.nil_append, List.cons_append, md, Nat.reducePow, Nat.reduceAdd, Nat.reduceMul]
                        refine RW.pure rfl rfl (fun _ => rfl) (fun V hV => det_idxA (j := 1) Try.underlying59 Try.sizeOf3 rfl rfl (rfl) (by omega)) (fun _ _ _ => rfl) ?_
                        dsimp only [put, List.set, ev, nth, List.nil_append, List.cons_append, md, Nat.reducePow, Nat.reduceAdd, Nat.reduceMul]
                        refine RW.det [] rfl rfl rfl rfl (fun _ => rfl) (fun V hV => Det.rel (det_load 1 Try.isAgg3 rfl rfl rfl)) (fun _ _ _ => rfl) ?_
                        dsimp only [put, List.set, ev, nth, List.nil_append, List.cons_append, md, Nat.reducePow, Nat.reduceAdd, Nat.reduceMul]
                        refine RW.pure rfl rfl (fun _ => rfl) (fun V hV => det_move) (fun _ _ _ => rfl) ?_
                        dsimp only [put, List.set, ev, nth, List.nil_append, List.cons_append, md, Nat.reducePow, Nat.reduceAdd, Nat.reduceMul]
                        refine RW.pure rfl rfl (fun _ => rfl) (fun V hV => Det.bv true (det_eqlz rfl rfl) (decide_eq_true hD)) (fun _ _ _ => rfl) ?_
                        dsimp only [put, List.set, ev, nth, List.nil_append, List.cons_append, md, Nat.reducePow, Nat.reduceAdd, Nat.reduceMul]
                        refine RW.pure rfl rfl (fun _ => rfl) (fun V hV => det_pick_true rfl) (fun _ _ _ => rfl) ?_
                        dsimp only [put, List.set, ev, nth, List.nil_append, List.cons_append, md, Nat.reducePow, Nat.reduceAdd, Nat.reduceMul]
                        refine RW.pure rfl rfl (fun _ => rfl) (fun V hV => det_move) (fun _ _ _ => rfl) ?_
                        dsimp only [put, List.set, ev, nth, List.nil_append, List.cons_append, md, Nat.reducePow, Nat.reduceAdd, Nat.reduceMul]
                        refine RW.pure rfl rfl (fun _ => rfl) (fun V hV => det_move) (fun _ _ _ => rfl) ?_
                        dsimp only [put, List.set, ev, nth, List.nil_append, List.cons_append, md, Nat.reducePow, Nat.reduceAdd, Nat.reduceMul]
                        refine RW.det [] rfl rfl rfl rfl (fun _ => rfl) (fun V hV => Det.rel (det_lenR Try.underlying43 rfl (fun w hw => RowO.rd hw 0 rfl h1) (iv_len p))) (fun _ _ _ => rfl) ?_
                        dsimp only [put, List.set, ev, nth, List.nil_append, List.cons_append, md, Nat.reducePow, Nat.reduceAdd, Nat.reduceMul]
                        refine RW.pure rfl rfl (fun _ => rfl) (fun V hV => Det.bv false (det_gtr (q := 2) rfl rfl) (decide_eq_false fun h => hok.short (by omega) (by have := getD_mem2 (L := L) (q := q) (by omega); rwa [hC, hD] at this))) (fun _ _ _ => rfl) ?_
                        dsimp only [put, List.set, ev, nth, List.nil_append, List.cons_append, md, Nat.reducePow, Nat.reduceAdd, Nat.reduceMul]
                        refine RW.pure rfl rfl (fun _ => rfl) (fun V hV => det_pick_true rfl) (fun _ _ _ => rfl) ?_
                        dsimp only [put, List.set, ev, nth, List.nil_append, List.cons_append, md, Nat.reducePow, Nat.reduceAdd, Nat.reduceMul]
                        refine RW.done (fun V => _ ++ flat [] V) rfl rfl (fun _ => rfl) (fun V hV => ?_)
                        try simp only [flat_nil, List.append_nil]
                        try dsimp only [put, blk, flat_nil, List.append_nil, List.append, List.eraseIdx, List.set, ev, nth, List.nil_append, List.cons_append, md, Nat.reducePow, Nat.reduceAdd, Nat.reduceMul]
                        refine WC.forget (.cons_cons _ (.cons _ (List.Sublist.refl _))) ?_
                        refine WC_cond_false rfl ?_
                        refine WC_skip ?_
                        refine WC_region ?_
                        refine WL_det rfl (det_addi (q := 1) rfl rfl (by omega)) ?_
                        dsimp only [put, List.take, List.drop, List.set, ev, nth, List.nil_append, List.cons_append, md, Nat.reducePow, Nat.reduceAdd, Nat.reduceMul]
                        refine WL_det rfl (det_move) ?_
                        dsimp only [put, List.take, List.drop, List.set, ev, nth, List.nil_append, List.cons_append, md, Nat.reducePow, Nat.reduceAdd, Nat.reduceMul]
                        refine WL_nil ?_
                        refine ⟨q + 1, ?_, ?_, ?_, ?_⟩
                        · rfl
                        · rfl
                        · omega
                        · omega
                      · have hC := Classical.not_not.1 hC
                        refine WC_draw [[], [0], [], [2], [2, 3], [0, 1, 2, 3, 4], [0, 1, 2, 3, 4, 5], [0, 1, 2, 3, 4, 5, 6], [0, 1, 2, 3, 4, 5, 6, 7], [0, 1, 2, 3, 4, 5, 6], [0, 1, 2, 3, 4, 5, 6, 7, 8, 9], [0, 1, 2, 3, 4, 5, 6, 7, 8, 9, 10], [0, 1, 2, 3, 4, 5, 6, 7, 8, 9, 10, 11], [0, 1, 2, 3, 4, 5, 6, 7, 8, 9, 10, 11, 12], [0, 1, 2, 3, 4, 5, 6, 7, 8, 9, 10, 11, 12, 13], [0, 1, 2, 3, 4, 5, 6, 7, 8, 9, 10, 11, 12, 13, 14], [0, 1, 2, 3, 4, 5, 6, 7, 8, 9, 10, 11, 12, 13, 14, 15]] [] 138 [] (List.nil_sublist _) mixed rfl (by decide) ?_
                        refine RW.pure rfl rfl (fun _ => rfl) (fun V hV => det_idxA (j := 0) Try.underlying59 Try.sizeOf3 rfl rfl (rfl) (by omega)) (fun _ _ _ => rfl) ?_
                        dsimp only [put, List.set, ev, nth, List.nil_append, List.cons_append, md, Nat.reducePow, Nat.reduceAdd, Nat.reduceMul]
                        refine RW.det [] rfl rfl rfl rfl (fun _ => rfl) (fun V hV => Det.rel (det_load 1 Try.isAgg3 rfl rfl rfl)) (fun _ _ _ => rfl) ?_
                        dsimp only [put, List.set, ev, nth, List.nil_append, List.cons_append, md, Nat.reducePow, Nat.reduceAdd, Nat.reduceMul]
                        refine RW.pure rfl rfl (fun _ => rfl) (fun V hV => det_move) (fun _ _ _ => rfl) ?_
                        dsimp only [put, List.set, ev, nth, List.nil_append, List.cons_append, md, Nat.reducePow, Nat.reduceAdd, Nat.reduceMul]
                        refine RW.det [] rfl rfl rfl rfl (fun _ => rfl) (fun V hV => Det.rel (det_idxR (j := 0) Try.underlying43 Try.sizeOf3 rfl rfl (rfl) (by rw [iv_len]; omega) (fun w hw => RowO.rd hw 0 rfl h1))) (fun _ _ _ => rfl) ?_
                        dsimp only [put, List.set, ev, nth, List.nil_append, List.cons_append, md, Nat.reducePow, Nat.reduceAdd, Nat.reduceMul]
                        refine RW.det [] rfl rfl rfl rfl (fun _ => rfl) (fun V hV => Det.rel (det_loadR Try.isAgg3 rfl (fun w hw => RowO.rd hw 0 rfl h1) (iv_at p (by omega)))) (fun _ _ _ => rfl) ?_
                        dsimp only [put, List.set, ev, nth, List.nil_append, List.cons_append, md, Nat.reducePow, Nat.reduceAdd, Nat.reduceMul]
                        refine RW.pure rfl rfl (fun _ => rfl) (fun V hV => Det.bv true (det_eqlz rfl rfl) (decide_eq_true hC)) (fun _ _ _ => rfl) ?_
                        dsimp only [put, List.set, ev, nth, List.nil_append, List.cons_append, md, Nat.reducePow, Nat.reduceAdd, Nat.reduceMul]
                        refine RW.pure rfl rfl (fun _ => rfl) (fun V hV => det_move) (fun _ _ _ => rfl) ?_
                        dsimp only [put, List.set, ev, nth, List.nil_append, List.cons_append, md, Nat.reducePow, Nat.reduceAdd, Nat.reduceMul]
                        refine RW.pure rfl rfl (fun _ => rfl) (fun V hV => det_idxA (j := 1) Try.underlying59 Try.sizeOf3 rfl rfl (rfl) (by omega)) (fun _ _ _ => rfl) ?_
                        dsimp only [put, List.set, ev, nth, List.nil_append, List.cons_append, md, Nat.reducePow, Nat.reduceAdd, Nat.reduceMul]
                        refine RW.det [] rfl rfl rfl rfl (fun _ => rfl) (fun V hV => Det.rel (det_load 1 Try.isAgg3 rfl rfl rfl)) (fun _ _ _ => rfl) ?_
                        dsimp only [put, List.set, ev, nth, List.nil_append, List.cons_append, md, Nat.reducePow, Nat.reduceAdd, Nat.reduceMul]
                        refine RW.pure rfl rfl (fun _ => rfl) (fun V hV => det_move) (fun _ _ _ => rfl) ?_
                        dsimp only [put, List.set, ev, nth, List.nil_append, List.cons_append, md, Nat.reducePow, Nat.reduceAdd, Nat.reduceMul]
                        refine RW.pure rfl rfl (fun _ => rfl) (fun V hV => Det.bv false (det_eqlz rfl rfl) (decide_eq_false hD)) (fun _ _ _ => rfl) ?_
                        dsimp only [put, List.set, ev, nth, List.nil_append, List.cons_append, md, Nat.reducePow, Nat.reduceAdd, Nat.reduceMul]
                        refine RW.pure rfl rfl (fun _ => rfl) (fun V hV => det_pick_true rfl) (fun _ _ _ => rfl) ?_
                        dsimp only [put, List.set, ev, nth, List.nil_append, List.cons_append, md, Nat.reducePow, Nat.reduceAdd, Nat.reduceMul]
                        refine RW.pure rfl rfl (fun _ => rfl) (fun V hV => det_move) (fun _ _ _ => rfl) ?_
                        dsimp only [put, List.set, ev, nth, List.nil_append, List.cons_append, md, Nat.reducePow, Nat.reduceAdd, Nat.reduceMul]
                        refine RW.skip rfl rfl (fun _ => rfl) ?_
                        dsimp only [put, List.set, ev, nth, List.nil_append, List.cons_append, md, Nat.reducePow, Nat.reduceAdd, Nat.reduceMul]
                        refine RW.skip rfl rfl (fun _ => rfl) ?_
                        dsimp only [put, List.set, ev, nth, List.nil_append, List.cons_append, md, Nat.reducePow, Nat.reduceAdd, Nat.reduceMul]
                        refine RW.skip rfl rfl (fun _ => rfl) ?_
                        dsimp only [put, List.set, ev, nth, List.nil_append, List.cons_append, md, Nat.reducePow, Nat.reduceAdd, Nat.reduceMul]
                        refine RW.pure rfl rfl (fun _ => rfl) (fun V hV => det_pick_false rfl) (fun _ _ _ => rfl) ?_
                        dsimp only [put, List.set, ev, nth, List.nil_append, List.cons_append, md, Nat.reducePow, Nat.reduceAdd, Nat.reduceMul]
                        refine RW.done (fun V => _ ++ flat [] V) rfl rfl (fun _ => rfl) (fun V hV => ?_)
                        try simp only [flat_nil, List.append_nil]
                        try dsimp only [put, blk, flat_nil, List.append_nil, List.append, List.eraseIdx, List.set, ev, nth, List.nil_append, List.cons_append, md, Nat.reducePow, Nat.reduceAdd, Nat.reduceMul]
                        refine WC.forget (.cons_cons _ (.cons _ (List.Sublist.refl _))) ?_
                        refine WC_cond_false rfl ?_
                        refine WC_skip ?_
                        refine WC_region ?_
                        refine WL_det rfl (det_addi (q := 1) rfl rfl (by omega)) ?_
                        dsimp only [put, List.take, List.drop, List.set, ev, nth, List.nil_append, List.cons_append, md, Nat.reducePow, Nat.reduceAdd, Nat.reduceMul]
                        refine WL_det rfl (det_move) ?_
                        dsimp only [put, List.take, List.drop, List.set, ev, nth, List.nil_append, List.cons_append, md, Nat.reducePow, Nat.reduceAdd, Nat.reduceMul]
                        refine WL_nil ?_
                        refine ⟨q + 1, ?_, ?_, ?_, ?_⟩
                        · rfl
                        · rfl
                        · omega
                        · omega
                  · by_cases hB : (L.getD q (0, 0)).1 = p.getD (i - 1) 0
                    · rw [decide_eq_false hA]
                      refine WC_draw [[], [0], [0, 1], [0, 1, 2], [0, 1], [0, 1], [0, 1, 5], [0, 1, 4, 5, 6], [0, 1, 4, 5, 6, 7], [0, 1, 2, 3, 4, 5, 6, 7, 8], [0, 1, 2, 3, 4, 5, 6, 7, 8, 9], [0, 1, 2, 3, 4, 5, 6, 7, 8, 9, 10], [0, 1, 2, 3, 4, 5, 6, 7, 8, 9, 10, 11], [0, 1, 2, 3, 4, 5, 6, 7, 8, 9, 10], [0, 1, 2, 3, 4, 5, 6, 7, 8, 9, 10], [0, 1, 2, 3, 4, 5, 6, 7, 8, 9, 10, 13, 14], [0, 1, 2, 3, 4, 5, 6, 7, 8, 9, 10, 13, 14, 15], [0, 1, 2, 3, 4, 5, 6, 7, 8, 9, 10, 11, 12, 13, 14, 15, 16], [0, 1, 2, 3, 4, 5, 6, 7, 8, 9, 10, 11, 12, 13, 14, 15, 16, 17], [0, 1, 2, 3, 4, 5, 6, 7, 8, 9, 10, 11, 12, 13, 14, 15, 16, 17, 18], [0, 1, 2, 3, 4, 5, 6, 7, 8, 9, 10, 11, 12, 13, 14, 15, 16, 17, 18, 19]] [] 138 [] (List.nil_sublist _) mixed rfl (by decide) ?_
                      refine RW.pure rfl rfl (fun _ => rfl) (fun V hV => det_move) (fun _ _ _ => rfl) ?_
                      dsimp only [put, List.set, ev, nth, List.nil_append, List.cons_append, md, Nat.reducePow, Nat.reduceAdd, Nat.reduceMul]
                      refine RW.pure rfl rfl (fun _ => rfl) (fun V hV => det_move) (fun _ _ _ => rfl) ?_
                      dsimp only [put, List.set, ev, nth, List.nil_append, List.cons_append, md, Nat.reducePow, Nat.reduceAdd, Nat.reduceMul]
                      refine RW.pure rfl rfl (fun _ => rfl) (fun V hV => det_idxA (j := 0) Try.underlying59 Try.sizeOf3 rfl rfl (rfl) (by omega)) (fun _ _ _ => rfl) ?_
                      dsimp only [put, List.set, ev, nth, List.nil_append, List.cons_append, md, Nat.reducePow, Nat.reduceAdd, Nat.reduceMul]
                      refine RW.det [] rfl rfl rfl rfl (fun _ => rfl) (fun V hV => Det.rel (det_load 1 Try.isAgg3 rfl rfl rfl)) (fun _ _ _ => rfl) ?_
                      dsimp only [put, List.set, ev, nth, List.nil_append, List.cons_append, md, Nat.reducePow, Nat.reduceAdd, Nat.reduceMul]
                      refine RW.pure rfl rfl (fun _ => rfl) (fun V hV => det_move) (fun _ _ _ => rfl) ?_
                      dsimp only [put, List.set, ev, nth, List.nil_append, List.cons_append, md, Nat.reducePow, Nat.reduceAdd, Nat.reduceMul]
                      refine RW.pure rfl rfl (fun _ => rfl) (fun V hV => det_move) (fun _ _ _ => rfl) ?_
                      dsimp only [put, List.set, ev, nth, List.nil_append, List.cons_append, md, Nat.reducePow, Nat.reduceAdd, Nat.reduceMul]
                      refine RW.pure rfl rfl (fun _ => rfl) (fun V hV => det_subi (q := 1) rfl rfl (by omega) (by omega)) (fun _ _ _ => rfl) ?_
                      dsimp only [put, List.set, ev, nth, List.nil_append, List.cons_append, md, Nat.reducePow, Nat.reduceAdd, Nat.reduceMul]
                      refine RW.det [] rfl rfl rfl rfl (fun _ => rfl) (fun V hV => Det.rel (det_idxR Try.underlying43 Try.sizeOf3 rfl rfl (rfl) (by rw [iv_len]; omega) (fun w hw => RowO.rd hw 0 rfl h1))) (fun _ _ _ => rfl) ?_
                      dsimp only [put, List.set, ev, nth, List.nil_append, List.cons_append, md, Nat.reducePow, Nat.reduceAdd, Nat.reduceMul]
                      refine RW.det [] rfl rfl rfl rfl (fun _ => rfl) (fun V hV => Det.rel (det_loadR Try.isAgg3 rfl (fun w hw => RowO.rd hw 0 rfl h1) (iv_at p (by omega)))) (fun _ _ _ => rfl) ?_
                      dsimp only [put, List.set, ev, nth, List.nil_append, List.cons_append, md, Nat.reducePow, Nat.reduceAdd, Nat.reduceMul]
                      refine RW.pure rfl rfl (fun _ => rfl) (fun V hV => Det.bv true (det_eqlz rfl rfl) (decide_eq_true hB)) (fun _ _ _ => rfl) ?_
                      dsimp only [put, List.set, ev, nth, List.nil_append, List.cons_append, md, Nat.reducePow, Nat.reduceAdd, Nat.reduceMul]
                      refine RW.pure rfl rfl (fun _ => rfl) (fun V hV => det_move) (fun _ _ _ => rfl) ?_
                      dsimp only [put, List.set, ev, nth, List.nil_append, List.cons_append, md, Nat.reducePow, Nat.reduceAdd, Nat.reduceMul]
                      refine RW.pure rfl rfl (fun _ => rfl) (fun V hV => det_idxA (j := 1) Try.underlying59 Try.sizeOf3 rfl rfl (rfl) (by omega)) (fun _ _ _ => rfl) ?_
                      dsimp only [put, List.set, ev, nth, List.nil_append, List.cons_append, md, Nat.reducePow, Nat.reduceAdd, Nat.reduceMul]
                      refine RW.det [] rfl rfl rfl rfl (fun _ => rfl) (fun V hV => Det.rel (det_load 1 Try.isAgg3 rfl rfl rfl)) (fun _ _ _ => rfl) ?_
                      dsimp only [put, List.set, ev, nth, List.nil_append, List.cons_append, md, Nat.reducePow, Nat.reduceAdd, Nat.reduceMul]
                      refine RW.pure rfl rfl (fun _ => rfl) (fun V hV => det_move) (fun _ _ _ => rfl) ?_
                      dsimp only [put, List.set, ev, nth, List.nil_append, List.cons_append, md, Nat.reducePow, Nat.reduceAdd, Nat.reduceMul]
                      refine RW.pure rfl rfl (fun _ => rfl) (fun V hV => det_move) (fun _ _ _ => rfl) ?_
                      dsimp only [put, List.set, ev, nth, List.nil_append, List.cons_append, md, Nat.reducePow, Nat.reduceAdd, Nat.reduceMul]
                      refine RW.det [] rfl rfl rfl rfl (fun _ => rfl) (fun V hV => Det.rel (det_idxR Try.underlying43 Try.sizeOf3 rfl rfl (rfl) (by rw [iv_len]; omega) (fun w hw => RowO.rd hw 0 rfl h1))) (fun _ _ _ => rfl) ?_
                      dsimp only [put, List.set, ev, nth, List.nil_append, List.cons_append, md, Nat.reducePow, Nat.reduceAdd, Nat.reduceMul]
                      refine RW.det [] rfl rfl rfl rfl (fun _ => rfl) (fun V hV => Det.rel (det_loadR Try.isAgg3 rfl (fun w hw => RowO.rd hw 0 rfl h1) (iv_at p (by omega)))) (fun _ _ _ => rfl) ?_
                      dsimp only [put, List.set, ev, nth, List.nil_append, List.cons_append, md, Nat.reducePow, Nat.reduceAdd, Nat.reduceMul]
                      refine RW.pure rfl rfl (fun _ => rfl) (fun V hV => det_eqlz rfl rfl) (fun _ _ _ => rfl) ?_
                      dsimp only [put, List.set, ev, nth, List.nil_append, List.cons_append, md, Nat.reducePow, Nat.reduceAdd, Nat.reduceMul]
                      refine RW.pure rfl rfl (fun _ => rfl) (fun V hV => det_pick_true rfl) (fun _ _ _ => rfl) ?_
                      dsimp only [put, List.set, ev, nth, List.nil_append, List.cons_append, md, Nat.reducePow, Nat.reduceAdd, Nat.reduceMul]
                      refine RW.pure rfl rfl (fun _ => rfl) (fun V hV => Det.bv (decide ((p.getD (i - 1) 0, p.getD i 0) ∈ L.take (q + 1))) (det_pick_false rfl) (decide_eq_decide.2 ⟨fun h => (take_mem (by omega) _).2 (.inr ⟨hB, h⟩), fun h => by rcases (take_mem (by omega) _).1 h with h | h; exact absurd h hA; exact h.2⟩)) (fun _ _ _ => rfl) ?_
                      dsimp only [put, List.set, ev, nth, List.nil_append, List.cons_append, md, Nat.reducePow, Nat.reduceAdd, Nat.reduceMul]
                      refine RW.pure rfl rfl (fun _ => rfl) (fun V hV => det_assign) (fun _ _ _ => rfl) ?_
                      dsimp only [put, List.set, ev, nth, List.nil_append, List.cons_append, md, Nat.reducePow, Nat.reduceAdd, Nat.reduceMul]
                      refine RW.done (fun V => _ ++ flat [] V) rfl rfl (fun _ => rfl) (fun V hV => ?_)
                      try simp only [flat_nil, List.append_nil]
                      try dsimp only [put, blk, flat_nil, List.append_nil, List.append, List.eraseIdx, List.set, ev, nth, List.nil_append, List.cons_append, md, Nat.reducePow, Nat.reduceAdd, Nat.reduceMul]
                      refine WC_seq ?_
                      by_cases hC : (L.getD q (0, 0)).1 ≠ p.getD 0 0
                      · refine WC_draw [[], [0], [], [2], [2, 3], [0, 1, 2, 3, 4], [0, 1, 2, 3, 4, 5], [0, 1, 2, 3, 4, 5, 6], [0, 1, 2, 3, 4, 5, 6, 7], [0, 1, 2, 3, 4, 5, 6], [0, 1, 2, 3, 4, 5, 6, 7, 8, 9], [0, 1, 2, 3, 4, 5, 6, 7, 8, 9, 10], [0, 1, 2, 3, 4, 5, 6, 7, 8, 9, 10, 11], [0, 1, 2, 3, 4, 5, 6, 7, 8, 9, 10, 11, 12], [0, 1, 2, 3, 4, 5, 6, 7, 8, 9, 10, 11, 12, 13], [0, 1, 2, 3, 4, 5, 6, 7, 8, 9, 10, 11, 12, 13, 14], [0, 1, 2, 3, 4, 5, 6, 7, 8, 9, 10, 11, 12, 13, 14, 15]] [] 138 [] (List.nil_sublist _) mixed rfl (by decide) ?_
                        refine RW.pure rfl rfl (fun _ => rfl) (fun V hV => det_idxA (j := 0) Try.underlying59 Try.sizeOf3 rfl rfl (rfl) (by omega)) (fun _ _ _ => rfl) ?_
                        dsimp only [put, List.set, ev, nth, List.nil_append, List.cons_append, md, Nat.reducePow, Nat.reduceAdd, Nat.reduceMul]
                        refine RW.det [] rfl rfl rfl rfl (fun _ => rfl) (fun V hV => Det.rel (det_load 1 Try.isAgg3 rfl rfl rfl)) (fun _ _ _ => rfl) ?_
                        dsimp only [put, List.set, ev, nth, List.nil_append, List.cons_append, md, Nat.reducePow, Nat.reduceAdd, Nat.reduceMul]
                        refine RW.pure rfl rfl (fun _ => rfl) (fun V hV => det_move) (fun _ _ _ => rfl) ?_
                        dsimp only [put, List.set, ev, nth, List.nil_append, List.cons_append, md, Nat.reducePow, Nat.reduceAdd, Nat.reduceMul]
                        refine RW.det [] rfl rfl rfl rfl (fun _ => rfl) (fun V hV => Det.rel (det_idxR (j := 0) Try.underlying43 Try.sizeOf3 rfl rfl (rfl) (by rw [iv_len]; omega) (fun w hw => RowO.rd hw 0 rfl h1))) (fun _ _ _ => rfl) ?_
                        dsimp only [put, List.set, ev, nth, List.nil_append, List.cons_append, md, Nat.reducePow, Nat.reduceAdd, Nat.reduceMul]
                        refine RW.det [] rfl rfl rfl rfl (fun _ => rfl) (fun V hV => Det.rel (det_loadR Try.isAgg3 rfl (fun w hw => RowO.rd hw 0 rfl h1) (iv_at p (by omega)))) (fun _ _ _ => rfl) ?_
                        dsimp only [put, List.set, ev, nth, List.nil_append, List.cons_append, md, Nat.reducePow, Nat.reduceAdd, Nat.reduceMul]
                        refine RW.pure rfl rfl (fun _ => rfl) (fun V hV => Det.bv false (det_eqlz rfl rfl) (decide_eq_false hC)) (fun _ _ _ => rfl) ?_
                        dsimp only [put, List.set, ev, nth, List.nil_append, List.cons_append, md, Nat.reducePow, Nat.reduceAdd, Nat.reduceMul]
                        refine RW.pure rfl rfl (fun _ => rfl) (fun V hV => det_move) (fun _ _ _ => rfl) ?_
                        dsimp only [put, List.set, ev, nth, List.nil_append, List.cons_append, md, Nat.reducePow, Nat.reduceAdd, Nat.reduceMul]
                        refine RW.skip rfl rfl (fun _ => rfl) ?_
                        dsimp only [put, List.set, ev, nth, List.nil_append, List.cons_append, md, Nat.reducePow, Nat.reduceAdd, Nat.reduceMul]
                        refine RW.skip rfl rfl (fun _ => rfl) ?_
                        dsimp only [put, List.set, ev, nth, List.nil_append, List.cons_append, md, Nat.reducePow, Nat.reduceAdd, Nat.reduceMul]
                        refine RW.skip rfl rfl (fun _ => rfl) ?_
                        dsimp only [put, List.set, ev, nth, List.nil_append, List.cons_append, md, Nat.reducePow, Nat.reduceAdd, Nat.reduceMul]
                        refine RW.skip rfl rfl (fun _ => rfl) ?_
                        dsimp only [put, List.set, ev, nth, List.nil_append, List.cons_append, md, Nat.reducePow, Nat.reduceAdd, Nat.reduceMul]
                        refine RW.pure rfl rfl (fun _ => rfl) (fun V hV => det_pick_false rfl) (fun _ _ _ => rfl) ?_
                        dsimp only [put, List.set, ev, nth, List.nil_append, List.cons_append, md, Nat.reducePow, Nat.reduceAdd, Nat.reduceMul]
                        refine RW.pure rfl rfl (fun _ => rfl) (fun V hV => det_move) (fun _ _ _ => rfl) ?_
                        dsimp only [put, List.set, ev, nth, List.nil_append, List.cons_append, md, Nat.reducePow, Nat.reduceAdd, Nat.reduceMul]
                        refine RW.skip rfl rfl (fun _ => rfl) ?_
                        dsimp only [put, List.set, ev, nth, List.nil_append, List.cons_append, md, Nat.reducePow, Nat.reduceAdd, Nat.reduceMul]
                        refine RW.skip rfl rfl (fun _ => rfl) ?_
                        dsimp only [put, List.set, ev, nth, List.nil_append, List.cons_append, md, Nat.reducePow, Nat.reduceAdd, Nat.reduceMul]
                        refine RW.skip rfl rfl (fun _ => rfl) ?_
                        dsimp only [put, List.set, ev, nth, List.nil_append, List.cons_append, md, Nat.reducePow, Nat.reduceAdd, Nat.reduceMul]
                        refine RW.pure rfl rfl (fun _ => rfl) (fun V hV => det_pick_false rfl) (fun _ _ _ => rfl) ?_
                        dsimp only [put, List.set, ev, nth, List.nil_append, List.cons_append, md, Nat.reducePow, Nat.reduceAdd, Nat.reduceMul]
                        refine RW.done (fun V => _ ++ flat [] V) rfl rfl (fun _ => rfl) (fun V hV => ?_)
                        try simp only [flat_nil, List.append_nil]
                        try dsimp only [put, blk, flat_nil, List.append_nil, List.append, List.eraseIdx, List.set, ev, nth, List.nil_append, List.cons_append, md, Nat.reducePow, Nat.reduceAdd, Nat.reduceMul]
                        refine WC.forget (.cons_cons _ (.cons _ (List.Sublist.refl _))) ?_
                        refine WC_cond_false rfl ?_
                        refine WC_skip ?_
                        refine WC_region ?_
                        refine WL_det rfl (det_addi (q := 1) rfl rfl (by omega)) ?_
                        dsimp only [put, List.take, List.drop, List.set, ev, nth, List.nil_append, List.cons_append, md, Nat.reducePow, Nat.reduceAdd, Nat.reduceMul]
                        refine WL_det rfl (det_move) ?_
                        dsimp only [put, List.take, List.drop, List.set, ev, nth, List.nil_append, List.cons_append, md, Nat.reducePow, Nat.reduceAdd, Nat.reduceMul]
                        refine WL_nil ?_
                        refine ⟨q + 1, ?_, ?_, ?_, ?_⟩
                        · rfl
                        · rfl
                        · omega
                        · omega
                      · by_cases hD : (L.getD q (0, 0)).2 = to
                        · have hC := Classical.not_not.1 hC
                          refine WC_draw [[], [0], [], [2], [2, 3], [0, 1, 2, 3, 4], [0, 1, 2, 3, 4, 5], [0, 1, 2, 3, 4, 5, 6], [0, 1, 2, 3, 4, 5, 6, 7], [0, 1, 2, 3, 4, 5, 6], [0, 1, 2, 3, 4, 5, 6, 7, 8, 9], [0, 1, 2, 3, 4, 5, 6, 7, 8, 9, 10], [0, 1, 2, 3, 4, 5, 6, 7, 8, 9, 10, 11], [0, 1, 2, 3, 4, 5, 6, 7, 8, 9, 10, 11, 12], [0, 1, 2, 3, 4, 5, 6, 7, 8, 9, 10, 11, 12, 13], [0, 1, 2, 3, 4, 5, 6, 7, 8, 9, 10, 11, 12, 13, 14], [0, 1, 2, 3, 4, 5, 6, 7, 8, 9, 10, 11, 12, 13, 14, 15]] [] 138 [] (List.nil_sublist _) mixed rfl (by decide) ?_
                          refine RW.pure rfl rfl (fun _ => rfl) (fun V hV => det_idxA (j := 0) Try.underlying59 Try.sizeOf3 rfl rfl (rfl) (by omega)) (fun _ _ _ => rfl) ?_
                          dsimp only [put, List.set, ev, nth, List.nil_append, List.cons_append, md, Nat.reducePow, Nat.reduceAdd, Nat.reduceMul]
                          refine RW.det [] rfl rfl rfl rfl (fun _ => rfl) (fun V hV => Det.rel (det_load 1 Try.isAgg3 rfl rfl rfl)) (fun _ _ _ => rfl) ?_
                          dsimp only [put, List.set, ev, nth, List.nil_append, List.cons_append, md, Nat.reducePow, Nat.reduceAdd, Nat.reduceMul]
                          refine RW.pure rfl rfl (fun _ => rfl) (fun V hV => det_move) (fun _ _ _ => rfl) ?_
                          dsimp only [put, List.set, ev, nth, List.nil_append, List.cons_append, md, Nat.reducePow, Nat.reduceAdd, Nat.reduceMul]
                          refine RW.det [] rfl rfl rfl rfl (fun _ => rfl) (fun V hV => Det.rel (det_idxR (j := 0) Try.underlying43 Try.sizeOf3 rfl rfl (rfl) (by rw [iv_len]; omega) (fun w hw => RowO.rd hw 0 rfl h1))) (fun _ _ _ => rfl) ?_
                          dsimp only [put, List.set, ev, nth, List.nil_append, List.cons_append, md, Nat.reducePow, Nat.reduceAdd, Nat.reduceMul]
                          refine RW.det [] rfl rfl rfl rfl (fun _ => rfl) (fun V hV => Det.rel (det_loadR Try.isAgg3 rfl (fun w hw => RowO.rd hw 0 rfl h1) (iv_at p (by omega)))) (fun _ _ _ => rfl) ?_
                          dsimp only [put, List.set, ev, nth, List.nil_append, List.cons_append, md, Nat.reducePow, Nat.reduceAdd, Nat.reduceMul]
                          refine RW.pure rfl rfl (fun _ => rfl) (fun V hV => Det.bv true (det_eqlz rfl rfl) (decide_eq_true hC)) (fun _ _ _ => rfl) ?_
                          dsimp only [put, List.set, ev, nth, List.nil_append, List.cons_append, md, Nat.reducePow, Nat.reduceAdd, Nat.reduceMul]
                          refine RW.pure rfl rfl (fun _ => rfl) (fun V hV => det_move) (fun _ _ _ => rfl) ?_
                          dsimp only [put, List.set, ev, nth, List.nil_append, List.cons_append, md, Nat.reducePow, Nat.reduceAdd, Nat.reduceMul]
                          refine RW.pure rfl rfl (fun _ => rfl) (fun V hV => det_idxA (j := 1) Try.underlying59 Try.sizeOf3 rfl rfl (rfl) (by omega)) (fun _ _ _ => rfl) ?_
                          dsimp only [put, List.set, ev, nth, List.nil_append, List.cons_append, md, Nat.reducePow, Nat.reduceAdd, Nat.reduceMul]
                          refine RW.det [] rfl rfl rfl rfl (fun _ => rfl) (fun V hV => Det.rel (det_load 1 Try.isAgg3 rfl rfl rfl)) (fun _ _ _ => rfl) ?_
                          dsimp only [put, List.set, ev, nth, List.nil_append, List.cons_append, md, Nat.reducePow, Nat.reduceAdd, Nat.reduceMul]
                          refine RW.pure rfl rfl (fun _ => rfl) (fun V hV => det_move) (fun _ _ _ => rfl) ?_
                          dsimp only [put, List.set, ev, nth, List.nil_append, List.cons_append, md, Nat.reducePow, Nat.reduceAdd, Nat.reduceMul]
                          refine RW.pure rfl rfl (fun _ => rfl) (fun V hV => Det.bv true (det_eqlz rfl rfl) (decide_eq_true hD)) (fun _ _ _ => rfl) ?_
                          dsimp only [put, List.set, ev, nth, List.nil_append, List.cons_append, md, Nat.reducePow, Nat.reduceAdd, Nat.reduceMul]
                          refine RW.pure rfl rfl (fun _ => rfl) (fun V hV => det_pick_true rfl) (fun _ _ _ => rfl) ?_
                          dsimp only [put, List.set, ev, nth, List.nil_append, List.cons_append, md, Nat.reducePow, Nat.reduceAdd, Nat.reduceMul]
                          refine RW.pure rfl rfl (fun _ => rfl) (fun V hV => det_move) (fun _ _ _ => rfl) ?_
                          dsimp only [put, List.set, ev, nth, List.nil_append, List.cons_append, md, Nat.reducePow, Nat.reduceAdd, Nat.reduceMul]
                          refine RW.pure rfl rfl (fun _ => rfl) (fun V hV => det_move) (fun _ _ _ => rfl) ?_
                          dsimp only [put, List.set, ev, nth, List.nil_append, List.cons_append, md, Nat.reducePow, Nat.reduceAdd, Nat.reduceMul]
                          refine RW.det [] rfl rfl rfl rfl (fun _ => rfl) (fun V hV => Det.rel (det_lenR Try.underlying43 rfl (fun w hw => RowO.rd hw 0 rfl h1) (iv_len p))) (fun _ _ _ => rfl) ?_
                          dsimp only [put, List.set, ev, nth, List.nil_append, List.cons_append, md, Nat.reducePow, Nat.reduceAdd, Nat.reduceMul]
                          refine RW.pure rfl rfl (fun _ => rfl) (fun V hV => Det.bv false (det_gtr (q := 2) rfl rfl) (decide_eq_false fun h => hok.short (by omega) (by have := getD_mem2 (L := L) (q := q) (by omega); rwa [hC, hD] at this))) (fun _ _ _ => rfl) ?_
                          dsimp only [put, List.set, ev, nth, List.nil_append, List.cons_append, md, Nat.reducePow, Nat.reduceAdd, Nat.reduceMul]
                          refine RW.pure rfl rfl (fun _ => rfl) (fun V hV => det_pick_true rfl) (fun _ _ _ => rfl) ?_
                          dsimp only [put, List.set, ev, nth, List.nil_append, List.cons_append, md, Nat.reducePow, Nat.reduceAdd, Nat.reduceMul]
                          refine RW.done (fun V => _ ++ flat [] V) rfl rfl (fun _ => rfl) (fun V hV => ?_)
                          try simp only [flat_nil, List.append_nil]
                          try dsimp only [put, blk, flat_nil, List.append_nil, List.append, List.eraseIdx, List.set, ev, nth, List.nil_append, List.cons_append, md, Nat.reducePow, Nat.reduceAdd, Nat.reduceMul]
                          refine WC.forget (.cons_cons _ (.cons _ (List.Sublist.refl _))) ?_
                          refine WC_cond_false rfl ?_
                          refine WC_skip ?_
                          refine WC_region ?_
                          refine WL_det rfl (det_addi (q := 1) rfl rfl (by omega)) ?_
                          dsimp only [put, List.take, List.drop, List.set, ev, nth, List.nil_append, List.cons_append, md, Nat.reducePow, Nat.reduceAdd, Nat.reduceMul]
                          refine WL_det rfl (det_move) ?_
                          dsimp only [put, List.take, List.drop, List.set, ev, nth, List.nil_append, List.cons_append, md, Nat.reducePow, Nat.reduceAdd, Nat.reduceMul]
                          refine WL_nil ?_
                          refine ⟨q + 1, ?_, ?_, ?_, ?_⟩
                          · rfl
                          · rfl
                          · omega
                          · omega
                        · have hC := Classical.not_not.1 hC
                          refine WC_draw [[], [0], [], [2], [2, 3], [0, 1, 2, 3, 4], [0, 1, 2, 3, 4, 5], [0, 1, 2, 3, 4, 5, 6], [0, 1, 2, 3, 4, 5, 6, 7], [0, 1, 2, 3, 4, 5, 6], [0, 1, 2, 3, 4, 5, 6, 7, 8, 9], [0, 1, 2, 3, 4, 5, 6, 7, 8, 9, 10], [0, 1, 2, 3, 4, 5, 6, 7, 8, 9, 10, 11], [0, 1, 2, 3, 4, 5, 6, 7, 8, 9, 10, 11, 12], [0, 1, 2, 3, 4, 5, 6, 7, 8, 9, 10, 11, 12, 13], [0, 1, 2, 3, 4, 5, 6, 7, 8, 9, 10, 11, 12, 13, 14], [0, 1, 2, 3, 4, 5, 6, 7, 8, 9, 10, 11, 12, 13, 14, 15]] [] 138 [] (List.nil_sublist _) mixed rfl (by decide) ?_
                          refine RW.pure rfl rfl (fun _ => rfl) (fun V hV => det_idxA (j := 0) Try.underlying59 Try.sizeOf3 rfl rfl (rfl) (by omega)) (fun _ _ _ => rfl) ?_
                          dsimp only [put, List.set, ev, nth, List.nil_append, List.cons_append, md, Nat.reducePow, Nat.reduceAdd, Nat.reduceMul]
                          refine RW.det [] rfl rfl rfl rfl (fun _ => rfl) (fun V hV => Det.rel (det_load 1 Try.isAgg3 rfl rfl rfl)) (fun _ _ _ => rfl) ?_
                          dsimp only [put, List.set, ev, nth, List.nil_append, List.cons_append, md, Nat.reducePow, Nat.reduceAdd, Nat.reduceMul]
                          refine RW.pure rfl rfl (fun _ => rfl) (fun V hV => det_move) (fun _ _ _ => rfl) ?_
                          dsimp only [put, List.set, ev, nth, List.nil_append, List.cons_append, md, Nat.reducePow, Nat.reduceAdd, Nat.reduceMul]
                          refine RW.det [] rfl rfl rfl rfl (fun _ => rfl) (fun V hV => Det.rel (det_idxR (j := 0) Try.underlying43 Try.sizeOf3 rfl rfl (rfl) (by rw [iv_len]; omega) (fun w hw => RowO.rd hw 0 rfl h1))) (fun _ _ _ => rfl) ?_
                          dsimp only [put, List.set, ev, nth, List.nil_append, List.cons_append, md, Nat.reducePow, Nat.reduceAdd, Nat.reduceMul]
                          refine RW.det [] rfl rfl rfl rfl (fun _ => rfl) (fun V hV => Det.rel (det_loadR Try.isAgg3 rfl (fun w hw => RowO.rd hw 0 rfl h1) (iv_at p (by omega)))) (fun _ _ _ => rfl) ?_
                          dsimp only [put, List.set, ev, nth, List.nil_append, List.cons_append, md, Nat.reducePow, Nat.reduceAdd, Nat.reduceMul]
                          refine RW.pure rfl rfl (fun _ => rfl) (fun V hV => Det.bv true (det_eqlz rfl rfl) (decide_eq_true hC)) (fun _ _ _ => rfl) ?_
                          dsimp only [put, List.set, ev, nth, List.nil_append, List.cons_append, md, Nat.reducePow, Nat.reduceAdd, Nat.reduceMul]
                          refine RW.pure rfl rfl (fun _ => rfl) (fun V hV => det_move) (fun _ _ _ => rfl) ?_
                          dsimp only [put, List.set, ev, nth, List.nil_append, List.cons_append, md, Nat.reducePow, Nat.reduceAdd, Nat.reduceMul]
                          refine RW.pure rfl rfl (fun _ => rfl) (fun V hV => det_idxA (j := 1) Try.underlying59 Try.sizeOf3 rfl rfl (rfl) (by omega)) (fun _ _ _ => rfl) ?_
                          dsimp only [put, List.set, ev, nth, List.nil_append, List.cons_append, md, Nat.reducePow, Nat.reduceAdd, Nat.reduceMul]
                          refine RW.det [] rfl rfl rfl rfl (fun _ => rfl) (fun V hV => Det.rel (det_load 1 Try.isAgg3 rfl rfl rfl)) (fun _ _ _ => rfl) ?_
                          dsimp only [put, List.set, ev, nth, List.nil_append, List.cons_append, md, Nat.reducePow, Nat.reduceAdd, Nat.reduceMul]
                          refine RW.pure rfl rfl (fun _ => rfl) (fun V hV => det_move) (fun _ _ _ => rfl) ?_
                          dsimp only [put, List.set, ev, nth, List.nil_append, List.cons_append, md, Nat.reducePow, Nat.reduceAdd, Nat.reduceMul]
                          refine RW.pure rfl rfl (fun _ => rfl) (fun V hV => Det.bv false (det_eqlz rfl rfl) (decide_eq_false hD)) (fun _ _ _ => rfl) ?_
                          dsimp only [put, List.set, ev, nth, List.nil_append, List.cons_append, md, Nat.reducePow, Nat.reduceAdd, Nat.reduceMul]
                          refine RW.pure rfl rfl (fun _ => rfl) (fun V hV => det_pick_true rfl) (fun _ _ _ => rfl) ?_
                          dsimp only [put, List.set, ev, nth, List.nil_append, List.cons_append, md, Nat.reducePow, Nat.reduceAdd, Nat.reduceMul]
                          refine RW.pure rfl rfl (fun _ => rfl) (fun V hV => det_move) (fun _ _ _ => rfl) ?_
                          dsimp only [put, List.set, ev, nth, List.nil_append, List.cons_append, md, Nat.reducePow, Nat.reduceAdd, Nat.reduceMul]
                          refine RW.skip rfl rfl (fun _ => rfl) ?_
                          dsimp only [put, List.set, ev, nth, List.nil_append, List.cons_append, md, Nat.reducePow, Nat.reduceAdd, Nat.reduceMul]
                          refine RW.skip rfl rfl (fun _ => rfl) ?_
                          dsimp only [put, List.set, ev, nth, List.nil_append, List.cons_append, md, Nat.reducePow, Nat.reduceAdd, Nat.reduceMul]
                          refine RW.skip rfl rfl (fun _ => rfl) ?_
                          dsimp only [put, List.set, ev, nth, List.nil_append, List.cons_append, md, Nat.reducePow, Nat.reduceAdd, Nat.reduceMul]
                          refine RW.pure rfl rfl (fun _ => rfl) (fun V hV => det_pick_false rfl) (fun _ _ _ => rfl) ?_
                          dsimp only [put, List.set, ev, nth, List.nil_append, List.cons_append, md, Nat.reducePow, Nat.reduceAdd, Nat.reduceMul]
                          refine RW.done (fun V => _ ++ flat [] V) rfl rfl (fun _ => rfl) (fun V hV => ?_)
                          try simp only [flat_nil, List.append_nil]
                          try dsimp only [put, blk, flat_nil, List.append_nil, List.append, List.eraseIdx, List.set, ev, nth, List.nil_append, List.cons_append, md, Nat.reducePow, Nat.reduceAdd, Nat.reduceMul]
                          refine WC.forget (.cons_cons _ (.cons _ (List.Sublist.refl _))) ?_
                          refine WC_cond_false rfl ?_
                          refine WC_skip ?_
                          refine WC_region ?_
                          refine WL_det rfl (det_addi (q := 1) rfl rfl (by omega)) ?_
                          dsimp only [put, List.take, List.drop, List.set, ev, nth, List.nil_append, List.cons_append, md, Nat.reducePow, Nat.reduceAdd, Nat.reduceMul]
                          refine WL_det rfl (det_move) ?_
                          dsimp only [put, List.take, List.drop, List.set, ev, nth, List.nil_append, List.cons_append, md, Nat.reducePow, Nat.reduceAdd, Nat.reduceMul]
                          refine WL_nil ?_
                          refine ⟨q + 1, ?_, ?_, ?_, ?_⟩
                          · rfl
                          · rfl
                          · omega
                          · omega
                    · rw [decide_eq_false hA]
                      refine WC_draw [[], [0], [0, 1], [0, 1, 2], [0, 1], [0, 1], [0, 1, 5], [0, 1, 4, 5, 6], [0, 1, 4, 5, 6, 7], [0, 1, 2, 3, 4, 5, 6, 7, 8], [0, 1, 2, 3, 4, 5, 6, 7, 8, 9], [0, 1, 2, 3, 4, 5, 6, 7, 8, 9, 10], [0, 1, 2, 3, 4, 5, 6, 7, 8, 9, 10, 11], [0, 1, 2, 3, 4, 5, 6, 7, 8, 9, 10], [0, 1, 2, 3, 4, 5, 6, 7, 8, 9, 10], [0, 1, 2, 3, 4, 5, 6, 7, 8, 9, 10, 13, 14], [0, 1, 2, 3, 4, 5, 6, 7, 8, 9, 10, 13, 14, 15], [0, 1, 2, 3, 4, 5, 6, 7, 8, 9, 10, 11, 12, 13, 14, 15, 16], [0, 1, 2, 3, 4, 5, 6, 7, 8, 9, 10, 11, 12, 13, 14, 15, 16, 17], [0, 1, 2, 3, 4, 5, 6, 7, 8, 9, 10, 11, 12, 13, 14, 15, 16, 17, 18], [0, 1, 2, 3, 4, 5, 6, 7, 8, 9, 10, 11, 12, 13, 14, 15, 16, 17, 18, 19]] [] 138 [] (List.nil_sublist _) mixed rfl (by decide) ?_
                      refine RW.pure rfl rfl (fun _ => rfl) (fun V hV => det_move) (fun _ _ _ => rfl) ?_
                      dsimp only [put, List.set, ev, nth, List.nil_append, List.cons_append, md, Nat.reducePow, Nat.reduceAdd, Nat.reduceMul]
                      refine RW.pure rfl rfl (fun _ => rfl) (fun V hV => det_move) (fun _ _ _ => rfl) ?_
                      dsimp only [put, List.set, ev, nth, List.nil_append, List.cons_append, md, Nat.reducePow, Nat.reduceAdd, Nat.reduceMul]
                      refine RW.pure rfl rfl (fun _ => rfl) (fun V hV => det_idxA (j := 0) Try.underlying59 Try.sizeOf3 rfl rfl (rfl) (by omega)) (fun _ _ _ => rfl) ?_
                      dsimp only [put, List.set, ev, nth, List.nil_append, List.cons_append, md, Nat.reducePow, Nat.reduceAdd, Nat.reduceMul]
                      refine RW.det [] rfl rfl rfl rfl (fun _ => rfl) (fun V hV => Det.rel (det_load 1 Try.isAgg3 rfl rfl rfl)) (fun _ _ _ => rfl) ?_
                      dsimp only [put, List.set, ev, nth, List.nil_append, List.cons_append, md, Nat.reducePow, Nat.reduceAdd, Nat.reduceMul]
                      refine RW.pure rfl rfl (fun _ => rfl) (fun V hV => det_move) (fun _ _ _ => rfl) ?_
                      dsimp only [put, List.set, ev, nth, List.nil_append, List.cons_append, md, Nat.reducePow, Nat.reduceAdd, Nat.reduceMul]
                      refine RW.pure rfl rfl (fun _ => rfl) (fun V hV => det_move) (fun _ _ _ => rfl) ?_
                      dsimp only [put, List.set, ev, nth, List.nil_append, List.cons_append, md, Nat.reducePow, Nat.reduceAdd, Nat.reduceMul]
                      refine RW.pure rfl rfl (fun _ => rfl) (fun V hV => det_subi (q := 1) rfl rfl (by omega) (by omega)) (fun _ _ _ => rfl) ?_
                      dsimp only [put, List.set, ev, nth, List.nil_append, List.cons_append, md, Nat.reducePow, Nat.reduceAdd, Nat.reduceMul]
                      refine RW.det [] rfl rfl rfl rfl (fun _ => rfl) (fun V hV => Det.rel (det_idxR Try.underlying43 Try.sizeOf3 rfl rfl (rfl) (by rw [iv_len]; omega) (fun w hw => RowO.rd hw 0 rfl h1))) (fun _ _ _ => rfl) ?_
                      dsimp only [put, List.set, ev, nth, List.nil_append, List.cons_append, md, Nat.reducePow, Nat.reduceAdd, Nat.reduceMul]
                      refine RW.det [] rfl rfl rfl rfl (fun _ => rfl) (fun V hV => Det.rel (det_loadR Try.isAgg3 rfl (fun w hw => RowO.rd hw 0 rfl h1) (iv_at p (by omega)))) (fun _ _ _ => rfl) ?_
                      dsimp only [put, List.set, ev, nth, List.nil_append, List.cons_append, md, Nat.reducePow, Nat.reduceAdd, Nat.reduceMul]
                      refine RW.pure rfl rfl (fun _ => rfl) (fun V hV => Det.bv false (det_eqlz rfl rfl) (decide_eq_false hB)) (fun _ _ _ => rfl) ?_
                      dsimp only [put, List.set, ev, nth, List.nil_append, List.cons_append, md, Nat.reducePow, Nat.reduceAdd, Nat.reduceMul]
                      refine RW.pure rfl rfl (fun _ => rfl) (fun V hV => det_move) (fun _ _ _ => rfl) ?_
                      dsimp only [put, List.set, ev, nth, List.nil_append, List.cons_append, md, Nat.reducePow, Nat.reduceAdd, Nat.reduceMul]
                      refine RW.skip rfl rfl (fun _ => rfl) ?_
                      dsimp only [put, List.set, ev, nth, List.nil_append, List.cons_append, md, Nat.reducePow, Nat.reduceAdd, Nat.reduceMul]
                      refine RW.skip rfl rfl (fun _ => rfl) ?_
                      dsimp only [put, List.set, ev, nth, List.nil_append, List.cons_append, md, Nat.reducePow, Nat.reduceAdd, Nat.reduceMul]
                      refine RW.skip rfl rfl (fun _ => rfl) ?_
                      dsimp only [put, List.set, ev, nth, List.nil_append, List.cons_append, md, Nat.reducePow, Nat.reduceAdd, Nat.reduceMul]
                      refine RW.skip rfl rfl (fun _ => rfl) ?_
                      dsimp only [put, List.set, ev, nth, List.nil_append, List.cons_append, md, Nat.reducePow, Nat.reduceAdd, Nat.reduceMul]
                      refine RW.skip rfl rfl (fun _ => rfl) ?_
                      dsimp only [put, List.set, ev, nth, List.nil_append, List.cons_append, md, Nat.reducePow, Nat.reduceAdd, Nat.reduceMul]
                      refine RW.skip rfl rfl (fun _ => rfl) ?_
                      dsimp only [put, List.set, ev, nth, List.nil_append, List.cons_append, md, Nat.reducePow, Nat.reduceAdd, Nat.reduceMul]
                      refine RW.skip rfl rfl (fun _ => rfl) ?_
                      dsimp only [put, List.set, ev, nth, List.nil_append, List.cons_append, md, Nat.reducePow, Nat.reduceAdd, Nat.reduceMul]
                      refine RW.pure rfl rfl (fun _ => rfl) (fun V hV => det_pick_false rfl) (fun _ _ _ => rfl) ?_
                      dsimp only [put, List.set, ev, nth, List.nil_append, List.cons_append, md, Nat.reducePow, Nat.reduceAdd, Nat.reduceMul]
                      refine RW.pure rfl rfl (fun _ => rfl) (fun V hV => Det.bv (decide ((p.getD (i - 1) 0, p.getD i 0) ∈ L.take (q + 1))) (det_pick_false rfl) ((decide_eq_false fun h => by rcases (take_mem (by omega) _).1 h with h | h; exact hA h; exact hB h.1).symm)) (fun _ _ _ => rfl) ?_
                      dsimp only [put, List.set, ev, nth, List.nil_append, List.cons_append, md, Nat.reducePow, Nat.reduceAdd, Nat.reduceMul]
                      refine RW.pure rfl rfl (fun _ => rfl) (fun V hV => det_assign) (fun _ _ _ => rfl) ?_
                      dsimp only [put, List.set, ev, nth, List.nil_append, List.cons_append, md, Nat.reducePow, Nat.reduceAdd, Nat.reduceMul]
                      refine RW.done (fun V => _ ++ flat [] V) rfl rfl (fun _ => rfl) (fun V hV => ?_)
                      try simp only [flat_nil, List.append_nil]
                      try dsimp only [put, blk, flat_nil, List.append_nil, List.append, List.eraseIdx, List.set, ev, nth, List.nil_append, List.cons_append, md, Nat.reducePow, Nat.reduceAdd, Nat.reduceMul]
                      refine WC_seq ?_
                      by_cases hC : (L.getD q (0, 0)).1 ≠ p.getD 0 0
                      · refine WC_draw [[], [0], [], [2], [2, 3], [0, 1, 2, 3, 4], [0, 1, 2, 3, 4, 5], [0, 1, 2, 3, 4, 5, 6], [0, 1, 2, 3, 4, 5, 6, 7], [0, 1, 2, 3, 4, 5, 6], [0, 1, 2, 3, 4, 5, 6, 7, 8, 9], [0, 1, 2, 3, 4, 5, 6, 7, 8, 9, 10], [0, 1, 2, 3, 4, 5, 6, 7, 8, 9, 10, 11], [0, 1, 2, 3, 4, 5, 6, 7, 8, 9, 10, 11, 12], [0, 1, 2, 3, 4, 5, 6, 7, 8, 9, 10, 11, 12, 13], [0, 1, 2, 3, 4, 5, 6, 7, 8, 9, 10, 11, 12, 13, 14], [0, 1, 2, 3, 4, 5, 6, 7, 8, 9, 10, 11, 12, 13, 14, 15]] [] 138 [] (List.nil_sublist _) mixed rfl (by decide) ?_
                        refine RW.pure rfl rfl (fun _ => rfl) (fun V hV => det_idxA (j := 0) Try.underlying59 Try.sizeOf3 rfl rfl (rfl) (by omega)) (fun _ _ _ => rfl) ?_
                        dsimp only [put, List.set, ev, nth, List.nil_append, List.cons_append, md, Nat.reducePow, Nat.reduceAdd, Nat.reduceMul]
                        refine RW.det [] rfl rfl rfl rfl (fun _ => rfl) (fun V hV => Det.rel (det_load 1 Try.isAgg3 rfl rfl rfl)) (fun _ _ _ => rfl) ?_
                        dsimp only [put, List.set, ev, nth, List.nil_append, List.cons_append, md, Nat.reducePow, Nat.reduceAdd, Nat.reduceMul]
                        refine RW.pure rfl rfl (fun _ => rfl) (fun V hV => det_move) (fun _ _ _ => rfl) ?_
                        dsimp only [put, List.set, ev, nth, List.nil_append, List.cons_append, md, Nat.reducePow, Nat.reduceAdd, Nat.reduceMul]
                        refine RW.det [] rfl rfl rfl rfl (fun _ => rfl) (fun V hV => Det.rel (det_idxR (j := 0) Try.underlying43 Try.sizeOf3 rfl rfl (rfl) (by rw [iv_len]; omega) (fun w hw => RowO.rd hw 0 rfl h1))) (fun _ _ _ => rfl) ?_
                        dsimp only [put, List.set, ev, nth, List.nil_append, List.cons_append, md, Nat.reducePow, Nat.reduceAdd, Nat.reduceMul]
                        refine RW.det [] rfl rfl rfl rfl (fun _ => rfl) (fun V hV => Det.rel (det_loadR Try.isAgg3 rfl (fun w hw => RowO.rd hw 0 rfl h1) (iv_at p (by omega)))) (fun _ _ _ => rfl) ?_
                        dsimp only [put, List.set, ev, nth, List.nil_append, List.cons_append, md, Nat.reducePow, Nat.reduceAdd, Nat.reduceMul]
                        refine RW.pure rfl rfl (fun _ => rfl) (fun V hV => Det.bv false (det_eqlz rfl rfl) (decide_eq_false hC)) (fun _ _ _ => rfl) ?_
                        dsimp only [put, List.set, ev, nth, List.nil_append, List.cons_append, md, Nat.reducePow, Nat.reduceAdd, Nat.reduceMul]
                        refine RW.pure rfl rfl (fun _ => rfl) (fun V hV => det_move) (fun _ _ _ => rfl) ?_
                        dsimp only [put, List.set, ev, nth, List.nil_append, List.cons_append, md, Nat.reducePow, Nat.reduceAdd, Nat.reduceMul]
                        refine RW.skip rfl rfl (fun _ => rfl) ?_
                        dsimp only [put, List.set, ev, nth, List.nil_append, List.cons_append, md, Nat.reducePow, Nat.reduceAdd, Nat.reduceMul]
                        refine RW.skip rfl rfl (fun _ => rfl) ?_
                        dsimp only [put, List.set, ev, nth, List.nil_append, List.cons_append, md, Nat.reducePow, Nat.reduceAdd, Nat.reduceMul]
                        refine RW.skip rfl rfl (fun _ => rfl) ?_
                        dsimp only [put, List.set, ev, nth, List.nil_append, List.cons_append, md, Nat.reducePow, Nat.reduceAdd, Nat.reduceMul]
                        refine RW.skip rfl rfl (fun _ => rfl) ?_
                        dsimp only [put, List.set, ev, nth, List.nil_append, List.cons_append, md, Nat.reducePow, Nat.reduceAdd, Nat.reduceMul]
                        refine RW.pure rfl rfl (fun _ => rfl) (fun V hV => det_pick_false rfl) (fun _ _ _ => rfl) ?_
                        dsimp only [put, List.set, ev, nth, List.nil_append, List.cons_append, md, Nat.reducePow, Nat.reduceAdd, Nat.reduceMul]
                        refine RW.pure rfl rfl (fun _ => rfl) (fun V hV => det_move) (fun _ _ _ => rfl) ?_
                        dsimp only [put, List.set, ev, nth, List.nil_append, List.cons_append, md, Nat.reducePow, Nat.reduceAdd, Nat.reduceMul]
                        refine RW.skip rfl rfl (fun _ => rfl) ?_
                        dsimp only [put, List.set, ev, nth, List.nil_append, List.cons_append, md, Nat.reducePow, Nat.reduceAdd, Nat.reduceMul]
                        refine RW.skip rfl rfl (fun _ => rfl) ?_
                        dsimp only [put, List.set, ev, nth, List.nil_append, List.cons_append, md, Nat.reducePow, Nat.reduceAdd, Nat.reduceMul]
                        refine RW.skip rfl rfl (fun _ => rfl) ?_
                        dsimp only [put, List.set, ev, nth, List.nil_append, List.cons_append, md, Nat.reducePow, Nat.reduceAdd, Nat.reduceMul]
                        refine RW.pure rfl rfl (fun _ => rfl) (fun V hV => det_pick_false rfl) (fun _ _ _ => rfl) ?_
                        dsimp only [put, List.set, ev, nth, List.nil_append, List.cons_append, md, Nat.reducePow, Nat.reduceAdd, Nat.reduceMul]
                        refine RW.done (fun V => _ ++ flat [] V) rfl rfl (fun _ => rfl) (fun V hV => ?_)
                        try simp only [flat_nil, List.append_nil]
                        try dsimp only [put, blk, flat_nil, List.append_nil, List.append, List.eraseIdx, List.set, ev, nth, List.nil_append, List.cons_append, md, Nat.reducePow, Nat.reduceAdd, Nat.reduceMul]
                        refine WC.forget (.cons_cons _ (.cons _ (List.Sublist.refl _))) ?_
                        refine WC_cond_false rfl ?_
                        refine WC_skip ?_
                        refine WC_region ?_
                        refine WL_det rfl (det_addi (q := 1) rfl rfl (by omega)) ?_
                        dsimp only [put, List.take, List.drop, List.set, ev, nth, List.nil_append, List.cons_append, md, Nat.reducePow, Nat.reduceAdd, Nat.reduceMul]
                        refine WL_det rfl (det_move) ?_
                        dsimp only [put, List.take, List.drop, List.set, ev, nth, List.nil_append, List.cons_append, md, Nat.reducePow, Nat.reduceAdd, Nat.reduceMul]
                        refine WL_nil ?_
                        refine ⟨q + 1, ?_, ?_, ?_, ?_⟩
                        · rfl
                        · rfl
                        · omega
                        · omega
                      · by_cases hD : (L.getD q (0, 0)).2 = to
                        · have hC := Classical.not_not.1 hC
                          refine WC_draw [[], [0], [], [2], [2, 3], [0, 1, 2, 3, 4], [0, 1, 2, 3, 4, 5], [0, 1, 2, 3, 4, 5, 6], [0, 1, 2, 3, 4, 5, 6, 7], [0, 1, 2, 3, 4, 5, 6], [0, 1, 2, 3, 4, 5, 6, 7, 8, 9], [0, 1, 2, 3, 4, 5, 6, 7, 8, 9, 10], [0, 1, 2, 3, 4, 5, 6, 7, 8, 9, 10, 11], [0, 1, 2, 3, 4, 5, 6, 7, 8, 9, 10, 11, 12], [0, 1, 2, 3, 4, 5, 6, 7, 8, 9, 10, 11, 12, 13], [0, 1, 2, 3, 4, 5, 6, 7, 8, 9, 10, 11, 12, 13, 14], [0, 1, 2, 3, 4, 5, 6, 7, 8, 9, 10, 11, 12, 13, 14, 15]] [] 138 [] (List.nil_sublist _) mixed rfl (by decide) ?_
                          refine RW.pure rfl rfl (fun _ => rfl) (fun V hV => det_idxA (j := 0) Try.underlying59 Try.sizeOf3 rfl rfl (rfl) (by omega)) (fun _ _ _ => rfl) ?_
                          dsimp only [put, List.set, ev, nth, List.nil_append, List.cons_append, md, Nat.reducePow, Nat.reduceAdd, Nat.reduceMul]
                          refine RW.det [] rfl rfl rfl rfl (fun _ => rfl) (fun V hV => Det.rel (det_load 1 Try.isAgg3 rfl rfl rfl)) (fun _ _ _ => rfl) ?_
                          dsimp only [put, List.set, ev, nth, List.nil_append, List.cons_append, md, Nat.reducePow, Nat.reduceAdd, Nat.reduceMul]
                          refine RW.pure rfl rfl (fun _ => rfl) (fun V hV => det_move) (fun _ _ _ => rfl) ?_
                          dsimp only [put, List.set, ev, nth, List.nil_append, List.cons_append, md, Nat.reducePow, Nat.reduceAdd, Nat.reduceMul]
                          refine RW.det [] rfl rfl rfl rfl (fun _ => rfl) (fun V hV => Det.rel (det_idxR (j := 0) Try.underlying43 Try.sizeOf3 rfl rfl (rfl) (by rw [iv_len]; omega) (fun w hw => RowO.rd hw 0 rfl h1))) (fun _ _ _ => rfl) ?_
                          dsimp only [put, List.set, ev, nth, List.nil_append, List.cons_append, md, Nat.reducePow, Nat.reduceAdd, Nat.reduceMul]
                          refine RW.det [] rfl rfl rfl rfl (fun _ => rfl) (fun V hV => Det.rel (det_loadR Try.isAgg3 rfl (fun w hw => RowO.rd hw 0 rfl h1) (iv_at p (by omega)))) (fun _ _ _ => rfl) ?_
                          dsimp only [put, List.set, ev, nth, List.nil_append, List.cons_append, md, Nat.reducePow, Nat.reduceAdd, Nat.reduceMul]
                          refine RW.pure rfl rfl (fun _ => rfl) (fun V hV => Det.bv true (det_eqlz rfl rfl) (decide_eq_true hC)) (fun _ _ _ => rfl) ?_
                          dsimp only [put, List.set, ev, nth, List.nil_append, List.cons_append, md, Nat.reducePow, Nat.reduceAdd, Nat.reduceMul]
                          refine RW.pure rfl rfl (fun _ => rfl) (fun V hV => det_move) (fun _ _ _ => rfl) ?_
                          dsimp only [put, List.set, ev, nth, List.nil_append, List.cons_append, md, Nat.reducePow, Nat.reduceAdd, Nat.reduceMul]
                          refine RW.pure rfl rfl (fun _ => rfl) (fun V hV => det_idxA (j := 1) Try.underlying59 Try.sizeOf3 rfl rfl (rfl) (by omega)) (fun _ _ _ => rfl) ?_
                          dsimp only [put, List.set, ev, nth, List.nil_append, List.cons_append, md, Nat.reducePow, Nat.reduceAdd, Nat.reduceMul]
                          refine RW.det [] rfl rfl rfl rfl (fun _ => rfl) (fun V hV => Det.rel (det_load 1 Try.isAgg3 rfl rfl rfl)) (fun _ _ _ => rfl) ?_
                          dsimp only [put, List.set, ev, nth, List.nil_append, List.cons_append, md, Nat.reducePow, Nat.reduceAdd, Nat.reduceMul]
                          refine RW.pure rfl rfl (fun _ => rfl) (fun V hV => det_move) (fun _ _ _ => rfl) ?_
                          dsimp only [put, List.set, ev, nth, List.nil_append, List.cons_append, md, Nat.reducePow, Nat.reduceAdd, Nat.reduceMul]
                          refine RW.pure rfl rfl (fun _ => rfl) (fun V hV => Det.bv true (det_eqlz rfl rfl) (decide_eq_true hD)) (fun _ _ _ => rfl) ?_
                          dsimp only [put, List.set, ev, nth, List.nil_append, List.cons_append, md, Nat.reducePow, Nat.reduceAdd, Nat.reduceMul]
                          refine RW.pure rfl rfl (fun _ => rfl) (fun V hV => det_pick_true rfl) (fun _ _ _ => rfl) ?_
                          dsimp only [put, List.set, ev, nth, List.nil_append, List.cons_append, md, Nat.reducePow, Nat.reduceAdd, Nat.reduceMul]
                          refine RW.pure rfl rfl (fun _ => rfl) (fun V hV => det_move) (fun _ _ _ => rfl) ?_
                          dsimp only [put, List.set, ev, nth, List.nil_append, List.cons_append, md, Nat.reducePow, Nat.reduceAdd, Nat.reduceMul]
                          refine RW.pure rfl rfl (fun _ => rfl) (fun V hV => det_move) (fun _ _ _ => rfl) ?_
                          dsimp only [put, List.set, ev, nth, List.nil_append, List.cons_append, md, Nat.reducePow, Nat.reduceAdd, Nat.reduceMul]
                          refine RW.det [] rfl rfl rfl rfl (fun _ => rfl) (fun V hV => Det.rel (det_lenR Try.underlying43 rfl (fun w hw => RowO.rd hw 0 rfl h1) (iv_len p))) (fun _ _ _ => rfl) ?_
                          dsimp only [put, List.set, ev, nth, List.nil_append, List.cons_append, md, Nat.reducePow, Nat.reduceAdd, Nat.reduceMul]
                          refine RW.pure rfl rfl (fun _ => rfl) (fun V hV => Det.bv false (det_gtr (q := 2) rfl rfl) (decide_eq_false fun h => hok.short (by omega) (by have := getD_mem2 (L := L) (q := q) (by omega); rwa [hC, hD] at this))) (fun _ _ _ => rfl) ?_
                          dsimp only [put, List.set, ev, nth, List.nil_append, List.cons_append, md, Nat.reducePow, Nat.reduceAdd, Nat.reduceMul]
                          refine RW.pure rfl rfl (fun _ => rfl) (fun V hV => det_pick_true rfl) (fun _ _ _ => rfl) ?_
                          dsimp only [put, List.set, ev, nth, List.nil_append, List.cons_append, md, Nat.reducePow, Nat.reduceAdd, Nat.reduceMul]
                          refine RW.done (fun V => _ ++ flat [] V) rfl rfl (fun _ => rfl) (fun V hV => ?_)
                          try simp only [flat_nil, List.append_nil]
                          try dsimp only [put, blk, flat_nil, List.append_nil, List.append, List.eraseIdx, List.set, ev, nth, List.nil_append, List.cons_append, md, Nat.reducePow, Nat.reduceAdd, Nat.reduceMul]
                          refine WC.forget (.cons_cons _ (.cons _ (List.Sublist.refl _))) ?_
                          refine WC_cond_false rfl ?_
                          refine WC_skip ?_
                          refine WC_region ?_
                          refine WL_det rfl (det_addi (q := 1) rfl rfl (by omega)) ?_
                          dsimp only [put, List.take, List.drop, List.set, ev, nth, List.nil_append, List.cons_append, md, Nat.reducePow, Nat.reduceAdd, Nat.reduceMul]
                          refine WL_det rfl (det_move) ?_
                          dsimp only [put, List.take, List.drop, List.set, ev, nth, List.nil_append, List.cons_append, md, Nat.reducePow, Nat.reduceAdd, Nat.reduceMul]
                          refine WL_nil ?_
                          refine ⟨q + 1, ?_, ?_, ?_, ?_⟩
                          · rfl
                          · rfl
                          · omega
                          · omega
                        · have hC := Classical.not_not.1 hC
                          refine WC_draw [[], [0], [], [2], [2, 3], [0, 1, 2, 3, 4], [0, 1, 2, 3, 4, 5], [0, 1, 2, 3, 4, 5, 6], [0, 1, 2, 3, 4, 5, 6, 7], [0, 1, 2, 3, 4, 5, 6], [0, 1, 2, 3, 4, 5, 6, 7, 8, 9], [0, 1, 2, 3, 4, 5, 6, 7, 8, 9, 10], [0, 1, 2, 3, 4, 5, 6, 7, 8, 9, 10, 11], [0, 1, 2, 3, 4, 5, 6, 7, 8, 9, 10, 11, 12], [0, 1, 2, 3, 4, 5, 6, 7, 8, 9, 10, 11, 12, 13], [0, 1, 2, 3, 4, 5, 6, 7, 8, 9, 10, 11, 12, 13, 14], [0, 1, 2, 3, 4, 5, 6, 7, 8, 9, 10, 11, 12, 13, 14, 15]] [] 138 [] (List.nil_sublist _) mixed rfl (by decide) ?_
                          refine RW.pure rfl rfl (fun _ => rfl) (fun V hV => det_idxA (j := 0) Try.underlying59 Try.sizeOf3 rfl rfl (rfl) (by omega)) (fun _ _ _ => rfl) ?_
                          dsimp only [put, List.set, ev, nth, List.nil_append, List.cons_append, md, Nat.reducePow, Nat.reduceAdd, Nat.reduceMul]
                          refine RW.det [] rfl rfl rfl rfl (fun _ => rfl) (fun V hV => Det.rel (det_load 1 Try.isAgg3 rfl rfl rfl)) (fun _ _ _ => rfl) ?_
                          dsimp only [put, List.set, ev, nth, List.nil_append, List.cons_append, md, Nat.reducePow, Nat.reduceAdd, Nat.reduceMul]
                          refine RW.pure rfl rfl (fun _ => rfl) (fun V hV => det_move) (fun _ _ _ => rfl) ?_
                          dsimp only [put, List.set, ev, nth, List.nil_append, List.cons_append, md, Nat.reducePow, Nat.reduceAdd, Nat.reduceMul]
                          refine RW.det [] rfl rfl rfl rfl (fun _ => rfl) (fun V hV => Det.rel (det_idxR (j := 0) Try.underlying43 Try.sizeOf3 rfl rfl (rfl) (by rw [iv_len]; omega) (fun w hw => RowO.rd hw 0 rfl h1))) (fun _ _ _ => rfl) ?_
                          dsimp only [put, List.set, ev, nth, List.nil_append, List.cons_append, md, Nat.reducePow, Nat.reduceAdd, Nat.reduceMul]
                          refine RW.det [] rfl rfl rfl rfl (fun _ => rfl) (fun V hV => Det.rel (det_loadR Try.isAgg3 rfl (fun w hw => RowO.rd hw 0 rfl h1) (iv_at p (by omega)))) (fun _ _ _ => rfl) ?_
                          dsimp only [put, List.set, ev, nth, List.nil_append, List.cons_append, md, Nat.reducePow, Nat.reduceAdd, Nat.reduceMul]
                          refine RW.pure rfl rfl (fun _ => rfl) (fun V hV => Det.bv true (det_eqlz rfl rfl) (decide_eq_true hC)) (fun _ _ _ => rfl) ?_
                          dsimp only [put, List.set, ev, nth, List.nil_append, List.cons_append, md, Nat.reducePow, Nat.reduceAdd, Nat.reduceMul]
                          refine RW.pure rfl rfl (fun _ => rfl) (fun V hV => det_move) (fun _ _ _ => rfl) ?_
                          dsimp only [put, List.set, ev, nth, List.nil_append, List.cons_append, md, Nat.reducePow, Nat.reduceAdd, Nat.reduceMul]
                          refine RW.pure rfl rfl (fun _ => rfl) (fun V hV => det_idxA (j := 1) Try.underlying59 Try.sizeOf3 rfl rfl (rfl) (by omega)) (fun _ _ _ => rfl) ?_
                          dsimp only [put, List.set, ev, nth, List.nil_append, List.cons_append, md, Nat.reducePow, Nat.reduceAdd, Nat.reduceMul]
                          refine RW.det [] rfl rfl rfl rfl (fun _ => rfl) (fun V hV => Det.rel (det_load 1 Try.isAgg3 rfl rfl rfl)) (fun _ _ _ => rfl) ?_
                          dsimp only [put, List.set, ev, nth, List.nil_append, List.cons_append, md, Nat.reducePow, Nat.reduceAdd, Nat.reduceMul]
                          refine RW.pure rfl rfl (fun _ => rfl) (fun V hV => det_move) (fun _ _ _ => rfl) ?_
                          dsimp only [put, List.set, ev, nth, List.nil_append, List.cons_append, md, Nat.reducePow, Nat.reduceAdd, Nat.reduceMul]
                          refine RW.pure rfl rfl (fun _ => rfl) (fun V hV => Det.bv false (det_eqlz rfl rfl) (decide_eq_false hD)) (fun _ _ _ => rfl) ?_
                          dsimp only [put, List.set, ev, nth, List.nil_append, List.cons_append, md, Nat.reducePow, Nat.reduceAdd, Nat.reduceMul]
                          refine RW.pure rfl rfl (fun _ => rfl) (fun V hV => det_pick_true rfl) (fun _ _ _ => rfl) ?_
                          dsimp only [put, List.set, ev, nth, List.nil_append, List.cons_append, md, Nat.reducePow, Nat.reduceAdd, Nat.reduceMul]
                          refine RW.pure rfl rfl (fun _ => rfl) (fun V hV => det_move) (fun _ _ _ => rfl) ?_
                          dsimp only [put, List.set, ev, nth, List.nil_append, List.cons_append, md, Nat.reducePow, Nat.reduceAdd, Nat.reduceMul]
                          refine RW.skip rfl rfl (fun _ => rfl) ?_
                          dsimp only [put, List.set, ev, nth, List.nil_append, List.cons_append, md, Nat.reducePow, Nat.reduceAdd, Nat.reduceMul]
                          refine RW.skip rfl rfl (fun _ => rfl) ?_
                          dsimp only [put, List.set, ev, nth, List.nil_append, List.cons_append, md, Nat.reducePow, Nat.reduceAdd, Nat.reduceMul]
                          refine RW.skip rfl rfl (fun _ => rfl) ?_
                          dsimp only [put, List.set, ev, nth, List.nil_append, List.cons_append, md, Nat.reducePow, Nat.reduceAdd, Nat.reduceMul]
                          refine RW.pure rfl rfl (fun _ => rfl) (fun V hV => det_pick_false rfl) (fun _ _ _ => rfl) ?_
                          dsimp only [put, List.set, ev, nth, List.nil_append, List.cons_append, md, Nat.reducePow, Nat.reduceAdd, Nat.reduceMul]
                          refine RW.done (fun V => _ ++ flat [] V) rfl rfl (fun _ => rfl) (fun V hV => ?_)
                          try simp only [flat_nil, List.append_nil]
                          try dsimp only [put, blk, flat_nil, List.append_nil, List.append, List.eraseIdx, List.set, ev, nth, List.nil_append, List.cons_append, md, Nat.reducePow, Nat.reduceAdd, Nat.reduceMul]
                          refine WC.forget (.cons_cons _ (.cons _ (List.Sublist.refl _))) ?_
                          refine WC_cond_false rfl ?_
                          refine WC_skip ?_
                          refine WC_region ?_
                          refine WL_det rfl (det_addi (q := 1) rfl rfl (by omega)) ?_
                          dsimp only [put, List.take, List.drop, List.set, ev, nth, List.nil_append, List.cons_append, md, Nat.reducePow, Nat.reduceAdd, Nat.reduceMul]
                          refine WL_det rfl (det_move) ?_
                          dsimp only [put, List.take, List.drop, List.set, ev, nth, List.nil_append, List.cons_append, md, Nat.reducePow, Nat.reduceAdd, Nat.reduceMul]
                          refine WL_nil ?_
                          refine ⟨q + 1, ?_, ?_, ?_, ?_⟩
                          · rfl
                          · rfl
                          · omega
                          · omega
                · have hc6 := of_decide_eq_false hc6
                  obtain rfl : q = L.length := by omega
                  have hed : (p.getD (i - 1) 0, p.getD i 0) ∈ L := by have := hok.edge (i - 1) (by omega); rwa [show i - 1 + 1 = i by omega] at this
                  rw [List.take_length, decide_eq_true hed]
                  refine WC_exit ?_
                  refine inB_same ?_
                  refine WC_seq ?_
                  refine WC_draw [[], [0], [0, 1], [0, 1, 2], [0, 1, 2], [0, 1, 2, 3, 4], [0, 1, 2], [0, 1, 2], [0, 1, 2, 6, 7], [0, 1, 2, 6, 7, 8], [0, 1, 2, 3, 4, 5, 6, 7, 8, 9], [0, 1, 2, 3, 4, 5, 6, 7, 8, 9, 10]] [] 138 [] (List.nil_sublist _) mixed rfl (by decide) ?_
                  refine RW.pure rfl rfl (fun _ => rfl) (fun V hV => det_move) (fun _ _ _ => rfl) ?_
                  dsimp only [put, List.set, ev, nth, List.nil_append, List.cons_append, md, Nat.reducePow, Nat.reduceAdd, Nat.reduceMul]
                  refine RW.pure rfl rfl (fun _ => rfl) (fun V hV => det_not rfl) (fun _ _ _ => rfl) ?_
                  dsimp only [put, List.set, ev, nth, List.nil_append, List.cons_append, md, Nat.reducePow, Nat.reduceAdd, Nat.reduceMul]
                  refine RW.pure rfl rfl (fun _ => rfl) (fun V hV => det_move) (fun _ _ _ => rfl) ?_
                  dsimp only [put, List.set, ev, nth, List.nil_append, List.cons_append, md, Nat.reducePow, Nat.reduceAdd, Nat.reduceMul]
                  refine RW.pure rfl rfl (fun _ => rfl) (fun V hV => det_move) (fun _ _ _ => rfl) ?_
                  dsimp only [put, List.set, ev, nth, List.nil_append, List.cons_append, md, Nat.reducePow, Nat.reduceAdd, Nat.reduceMul]
                  refine RW.pure rfl rfl (fun _ => rfl) (fun V hV => det_move) (fun _ _ _ => rfl) ?_
                  dsimp only [put, List.set, ev, nth, List.nil_append, List.cons_append, md, Nat.reducePow, Nat.reduceAdd, Nat.reduceMul]
                  refine RW.pure rfl rfl (fun _ => rfl) (fun V hV => det_cutTo Try.underlying43 Try.sizeOf3 rfl rfl (by omega)) (fun _ _ _ => rfl) ?_
                  dsimp only [put, List.set, ev, nth, List.nil_append, List.cons_append, md, Nat.reducePow, Nat.reduceAdd, Nat.reduceMul]
                  refine RW.pure rfl rfl (fun _ => rfl) (fun V hV => det_move) (fun _ _ _ => rfl) ?_
                  dsimp only [put, List.set, ev, nth, List.nil_append, List.cons_append, md, Nat.reducePow, Nat.reduceAdd, Nat.reduceMul]
                  refine RW.pure rfl rfl (fun _ => rfl) (fun V hV => det_move) (fun _ _ _ => rfl) ?_
                  dsimp only [put, List.set, ev, nth, List.nil_append, List.cons_append, md, Nat.reducePow, Nat.reduceAdd, Nat.reduceMul]
                  refine RW.det [] rfl rfl rfl rfl (fun _ => rfl) (fun V hV => Det.rel (det_idxR Try.underlying43 Try.sizeOf3 rfl rfl (rfl) (by rw [iv_len]; omega) (fun w hw => RowO.rd hw 0 rfl h1))) (fun _ _ _ => rfl) ?_
                  dsimp only [put, List.set, ev, nth, List.nil_append, List.cons_append, md, Nat.reducePow, Nat.reduceAdd, Nat.reduceMul]
                  refine RW.det [] rfl rfl rfl rfl (fun _ => rfl) (fun V hV => Det.rel (det_loadR Try.isAgg3 rfl (fun w hw => RowO.rd hw 0 rfl h1) (iv_at p (by omega)))) (fun _ _ _ => rfl) ?_
                  dsimp only [put, List.set, ev, nth, List.nil_append, List.cons_append, md, Nat.reducePow, Nat.reduceAdd, Nat.reduceMul]
                  refine RW.det [] rfl rfl rfl rfl (fun _ => rfl) (fun V hV => Rel_call rfl Try.call26 (fun w hw => in_b (p.take i) (p.getD i 0) _ false (decide_eq_false (hok.once i (by omega))) (by rw [List.length_take]; omega) w (by rw [iv_take]; exact RdL.take (RowO.rd (hflat0 hw) 0 rfl h1) (by rw [iv_len]; omega)))) (fun _ _ _ => rfl) ?_
                  dsimp only [put, List.set, ev, nth, List.nil_append, List.cons_append, md, Nat.reducePow, Nat.reduceAdd, Nat.reduceMul]
                  refine RW.pure rfl rfl (fun _ => rfl) (fun V hV => det_pick_false rfl) (fun _ _ _ => rfl) ?_
                  dsimp only [put, List.set, ev, nth, List.nil_append, List.cons_append, md, Nat.reducePow, Nat.reduceAdd, Nat.reduceMul]
                  refine RW.done (fun V => _ ++ flat [] V) rfl rfl (fun _ => rfl) (fun V hV => ?_)
                  try simp only [flat_nil, List.append_nil]
                  try dsimp only [put, blk, flat_nil, List.append_nil, List.append, List.eraseIdx, List.set, ev, nth, List.nil_append, List.cons_append, md, Nat.reducePow, Nat.reduceAdd, Nat.reduceMul]
                  refine WC_cond_false rfl ?_
                  refine WC_skip ?_
                  refine WC_region ?_
                  refine WL_det rfl (det_move) ?_
                  dsimp only [put, List.take, List.drop, List.set, ev, nth, List.nil_append, List.cons_append, md, Nat.reducePow, Nat.reduceAdd, Nat.reduceMul]
                  refine WL_det rfl (det_addi (q := 1) rfl rfl (by omega)) ?_
                  dsimp only [put, List.take, List.drop, List.set, ev, nth, List.nil_append, List.cons_append, md, Nat.reducePow, Nat.reduceAdd, Nat.reduceMul]
                  refine WL_det rfl (det_assign) ?_
                  dsimp only [put, List.take, List.drop, List.set, ev, nth, List.nil_append, List.cons_append, md, Nat.reducePow, Nat.reduceAdd, Nat.reduceMul]
                  refine WL_nil ?_
                  refine ⟨i + 1, ?_, ?_, ?_, ?_⟩
                  · rfl
                  · rfl
                  · omega
                  · omega
            · have hc5 := of_decide_eq_false hc5
              obtain rfl : i = p.length := by omega
              refine WC_exit ?_
              refine inB_same ?_
              refine WC_seq ?_
              refine WC_region ?_
              refine WL_det rfl (det_assign) ?_
              dsimp only [put, List.take, List.drop, List.set, ev, nth, List.nil_append, List.cons_append, md, Nat.reducePow, Nat.reduceAdd, Nat.reduceMul]
              refine WL_nil ?_
              refine WC_ret ?_
              refine fin_tmp Try.results5 rfl ([]) (List.nil_sublist _) ?_
              exact ⟨rfl, rfl⟩
        · refine WC_region ?_
          refine WL_det rfl (det_move) ?_
          dsimp only [put, List.take, List.drop, List.set, ev, nth, List.nil_append, List.cons_append, md, Nat.reducePow, Nat.reduceAdd, Nat.reduceMul]
          refine WL_det rfl (det_lenR Try.underlying43 rfl (fun w hw => RowO.rd hw 0 rfl h1) (iv_len p)) ?_
          dsimp only [put, List.take, List.drop, List.set, ev, nth, List.nil_append, List.cons_append, md, Nat.reducePow, Nat.reduceAdd, Nat.reduceMul]
          refine WL_det rfl (Det.bv false (det_lss (q := 1) rfl rfl) (decide_eq_false (by omega))) ?_
          dsimp only [put, List.take, List.drop, List.set, ev, nth, List.nil_append, List.cons_append, md, Nat.reducePow, Nat.reduceAdd, Nat.reduceMul]
          refine WL_det rfl (det_move) ?_
          dsimp only [put, List.take, List.drop, List.set, ev, nth, List.nil_append, List.cons_append, md, Nat.reducePow, Nat.reduceAdd, Nat.reduceMul]
          refine WL_detG rfl (det_move) ?_
          dsimp only [put, List.take, List.drop, List.set, ev, nth, List.nil_append, List.cons_append, md, Nat.reducePow, Nat.reduceAdd, Nat.reduceMul]
          refine WL_detG rfl (det_move) ?_
          dsimp only [put, List.take, List.drop, List.set, ev, nth, List.nil_append, List.cons_append, md, Nat.reducePow, Nat.reduceAdd, Nat.reduceMul]
          refine WL_detG rfl (det_idxR (j := 0) Try.underlying43 Try.sizeOf3 rfl rfl (rfl) (by rw [iv_len]; exact hpos) (fun w hw => RowO.rd hw 0 rfl h1)) ?_
          dsimp only [put, List.take, List.drop, List.set, ev, nth, List.nil_append, List.cons_append, md, Nat.reducePow, Nat.reduceAdd, Nat.reduceMul]
          refine WL_detG rfl (det_loadR Try.isAgg3 rfl (fun w hw => RowO.rd hw 0 rfl h1) (iv_at p (hpos))) ?_
          dsimp only [put, List.take, List.drop, List.set, ev, nth, List.nil_append, List.cons_append, md, Nat.reducePow, Nat.reduceAdd, Nat.reduceMul]
          refine WL_relG rfl (Rel_call rfl Try.call26 (fun w hw => in_b F (p.getD 0 0) vb true (decide_eq_true hok.first) (by omega) w (RdL.far hw hF))) ?_
          rintro _ _ ⟨rfl, rfl⟩
          dsimp only [put, List.append_nil, List.set, ev, nth, List.nil_append, List.cons_append, md, Nat.reducePow, Nat.reduceAdd, Nat.reduceMul]
          try simp only [List.append_nil]
          refine WL_detG rfl (Det.bv false (det_not rfl) (rfl)) ?_
          dsimp only [put, List.take, List.drop, List.set, ev, nth, List.nil_append, List.cons_append, md, Nat.reducePow, Nat.reduceAdd, Nat.reduceMul]
          refine WL_det rfl (det_pick_false rfl) ?_
          dsimp only [put, List.take, List.drop, List.set, ev, nth, List.nil_append, List.cons_append, md, Nat.reducePow, Nat.reduceAdd, Nat.reduceMul]
          refine WL_det rfl (det_move) ?_
          dsimp only [put, List.take, List.drop, List.set, ev, nth, List.nil_append, List.cons_append, md, Nat.reducePow, Nat.reduceAdd, Nat.reduceMul]
          refine WL_detG rfl (det_move) ?_
          dsimp only [put, List.take, List.drop, List.set, ev, nth, List.nil_append, List.cons_append, md, Nat.reducePow, Nat.reduceAdd, Nat.reduceMul]
          refine WL_detG rfl (det_move) ?_
          dsimp only [put, List.take, List.drop, List.set, ev, nth, List.nil_append, List.cons_append, md, Nat.reducePow, Nat.reduceAdd, Nat.reduceMul]
          refine WL_detG rfl (det_lenR Try.underlying43 rfl (fun w hw => RowO.rd hw 0 rfl h1) (iv_len p)) ?_
          dsimp only [put, List.take, List.drop, List.set, ev, nth, List.nil_append, List.cons_append, md, Nat.reducePow, Nat.reduceAdd, Nat.reduceMul]
          refine WL_detG rfl (det_subi (q := 1) rfl rfl (by omega) (by omega)) ?_
          dsimp only [put, List.take, List.drop, List.set, ev, nth, List.nil_append, List.cons_append, md, Nat.reducePow, Nat.reduceAdd, Nat.reduceMul]
          refine WL_detG rfl (det_idxR Try.underlying43 Try.sizeOf3 rfl rfl (rfl) (by rw [iv_len]; omega) (fun w hw => RowO.rd hw 0 rfl h1)) ?_
          dsimp only [put, List.take, List.drop, List.set, ev, nth, List.nil_append, List.cons_append, md, Nat.reducePow, Nat.reduceAdd, Nat.reduceMul]
          refine WL_detG rfl (det_loadR Try.isAgg3 rfl (fun w hw => RowO.rd hw 0 rfl h1) (iv_at p (by omega))) ?_
          dsimp only [put, List.take, List.drop, List.set, ev, nth, List.nil_append, List.cons_append, md, Nat.reducePow, Nat.reduceAdd, Nat.reduceMul]
          refine WL_detG rfl (det_move) ?_
          dsimp only [put, List.take, List.drop, List.set, ev, nth, List.nil_append, List.cons_append, md, Nat.reducePow, Nat.reduceAdd, Nat.reduceMul]
          refine WL_detG rfl (Det.bv false (det_neqz rfl rfl) (by rw [hok.last]; simp)) ?_
          dsimp only [put, List.take, List.drop, List.set, ev, nth, List.nil_append, List.cons_append, md, Nat.reducePow, Nat.reduceAdd, Nat.reduceMul]
          refine WL_det rfl (det_pick_false rfl) ?_
          dsimp only [put, List.take, List.drop, List.set, ev, nth, List.nil_append, List.cons_append, md, Nat.reducePow, Nat.reduceAdd, Nat.reduceMul]
          refine WL_det rfl (det_move) ?_
          dsimp only [put, List.take, List.drop, List.set, ev, nth, List.nil_append, List.cons_append, md, Nat.reducePow, Nat.reduceAdd, Nat.reduceMul]
          refine WL_detG rfl (det_move) ?_
          dsimp only [put, List.take, List.drop, List.set, ev, nth, List.nil_append, List.cons_append, md, Nat.reducePow, Nat.reduceAdd, Nat.reduceMul]
          refine WL_detG rfl (det_lenR Try.underlying43 rfl (fun w hw => RowO.rd hw 0 rfl h1) (iv_len p)) ?_
          dsimp only [put, List.take, List.drop, List.set, ev, nth, List.nil_append, List.cons_append, md, Nat.reducePow, Nat.reduceAdd, Nat.reduceMul]
          refine WL_detG rfl (Det.bv false (det_gtr (q := 1) rfl rfl) (decide_eq_false hp1)) ?_
          dsimp only [put, List.take, List.drop, List.set, ev, nth, List.nil_append, List.cons_append, md, Nat.reducePow, Nat.reduceAdd, Nat.reduceMul]
          refine WL_detG rfl (det_move) ?_
          dsimp only [put, List.take, List.drop, List.set, ev, nth, List.nil_append, List.cons_append, md, Nat.reducePow, Nat.reduceAdd, Nat.reduceMul]
          refine WL_skipG ?_ ?_
          · rfl
          dsimp only [put, List.take, List.drop, List.set, ev, nth, List.nil_append, List.cons_append, md, Nat.reducePow, Nat.reduceAdd, Nat.reduceMul]
          refine WL_skipG ?_ ?_
          · rfl
          dsimp only [put, List.take, List.drop, List.set, ev, nth, List.nil_append, List.cons_append, md, Nat.reducePow, Nat.reduceAdd, Nat.reduceMul]
          refine WL_skipG ?_ ?_
          · rfl
          dsimp only [put, List.take, List.drop, List.set, ev, nth, List.nil_append, List.cons_append, md, Nat.reducePow, Nat.reduceAdd, Nat.reduceMul]
          refine WL_detG rfl (det_pick_false rfl) ?_
          dsimp only [put, List.take, List.drop, List.set, ev, nth, List.nil_append, List.cons_append, md, Nat.reducePow, Nat.reduceAdd, Nat.reduceMul]
          refine WL_det rfl (det_pick_false rfl) ?_
          dsimp only [put, List.take, List.drop, List.set, ev, nth, List.nil_append, List.cons_append, md, Nat.reducePow, Nat.reduceAdd, Nat.reduceMul]
          refine WL_nil ?_
          refine WC_cond_false rfl ?_
          refine WC_skip ?_
          refine WC_seq ?_
          refine WC_seq ?_
          refine WC_region ?_
          refine WL_det rfl (det_assign) ?_
          dsimp only [put, List.take, List.drop, List.set, ev, nth, List.nil_append, List.cons_append, md, Nat.reducePow, Nat.reduceAdd, Nat.reduceMul]
          refine WL_nil ?_
          refine WC_block ?_
          refine WC_loopS (ι := Nat) [76, 77, 78, 79, 11, 82, 83, 84, 85, 86, 87, 13, 88, 89, 90, 91, 92, 93, 94, 95, 96, 97, 98, 99, 100, 101, 102, 103, 104, 105, 106, 107, 108, 109, 110, 111, 112, 113, 114, 115, 116, 117, 118, 119, 120, 121, 122, 123, 124, 6, 125, 126, 127, 128, 129, 130, 131, 132, 133, 134, 135, 136, 137, 80, 81] (fun i => [(10, vn .i64 (i))]) (fun i => []) (fun i => 1 ≤ i ∧ i ≤ p.length) (fun i => p.length - i) 1 ?_ ?_ ?_ ?_
          · rfl
          · rfl
          · exact ⟨Nat.le_refl _, hpos⟩
          · rintro i g' ⟨hi1, hi2⟩
            dsimp only [setAll, setG, setM, List.set]
            refine WC_seq ?_
            refine WC_seq ?_
            refine WC_region ?_
            refine WL_det rfl (det_move) ?_
            dsimp only [put, List.take, List.drop, List.set, ev, nth, List.nil_append, List.cons_append, md, Nat.reducePow, Nat.reduceAdd, Nat.reduceMul]
            refine WL_det rfl (det_move) ?_
            dsimp only [put, List.take, List.drop, List.set, ev, nth, List.nil_append, List.cons_append, md, Nat.reducePow, Nat.reduceAdd, Nat.reduceMul]
            refine WL_det rfl (det_lenR Try.underlying43 rfl (fun w hw => RowO.rd hw 0 rfl h1) (iv_len p)) ?_
            dsimp only [put, List.take, List.drop, List.set, ev, nth, List.nil_append, List.cons_append, md, Nat.reducePow, Nat.reduceAdd, Nat.reduceMul]
            refine WL_det rfl (det_lss rfl rfl) ?_
            dsimp only [put, List.take, List.drop, List.set, ev, nth, List.nil_append, List.cons_append, md, Nat.reducePow, Nat.reduceAdd, Nat.reduceMul]
            refine WL_nil ?_
            refine WC_cond rfl (fun hc5 => ?_) (fun hc5 => ?_)
            · have hc5 := of_decide_eq_true hc5
              refine WC_skip ?_
              refine WC_seq ?_
              refine WC_block ?_
              refine WC_seq ?_
              refine WC_region ?_
              refine WL_det rfl (det_assign) ?_
              dsimp only [put, List.take, List.drop, List.set, ev, nth, List.nil_append, List.cons_append, md, Nat.reducePow, Nat.reduceAdd, Nat.reduceMul]
              refine WL_nil ?_
              refine WC_seq ?_
              refine WC_seq ?_
              refine WC_region ?_
              refine WL_det rfl (det_move) ?_
              dsimp only [put, List.take, List.drop, List.set, ev, nth, List.nil_append, List.cons_append, md, Nat.reducePow, Nat.reduceAdd, Nat.reduceMul]
              refine WL_det rfl (det_lenP Try.underlying52 rfl (fun w hw => RdP.far hw hL)) ?_
              dsimp only [put, List.take, List.drop, List.set, ev, nth, List.nil_append, List.cons_append, md, Nat.reducePow, Nat.reduceAdd, Nat.reduceMul]
              refine WL_det rfl (det_move) ?_
              dsimp only [put, List.take, List.drop, List.set, ev, nth, List.nil_append, List.cons_append, md, Nat.reducePow, Nat.reduceAdd, Nat.reduceMul]
              refine WL_nil ?_
              refine WC_block ?_
              refine WC_loopS (ι := Nat) [85, 86, 87, 13, 88, 89, 90, 91, 92, 93, 94, 95, 96, 97, 98, 99, 100, 101, 102, 103, 104, 105, 106, 107, 108, 109, 110, 111, 112, 113, 114, 115, 116, 117, 118, 119, 120, 121, 122, 123, 124, 6, 125] (fun q => [(84, vn .i64 (q)), (11, .bool (decide ((p.getD (i - 1) 0, p.getD i 0) ∈ L.take q)))]) (fun q => []) (fun q => q ≤ L.length) (fun q => L.length - q) 0 ?_ ?_ ?_ ?_
              · rw [show decide ((p.getD (i - 1) 0, p.getD i 0) ∈ L.take 0) = false from decide_eq_false (by simp)]
                rfl
              · rfl
              · exact Nat.zero_le _
              · rintro q g'' hq
                dsimp only [setAll, setG, setM, List.set]
                refine WC_seq ?_
                refine WC_region ?_
                refine WL_det rfl (det_lss rfl rfl) ?_
                dsimp only [put, List.take, List.drop, List.set, ev, nth, List.nil_append, List.cons_append, md, Nat.reducePow, Nat.reduceAdd, Nat.reduceMul]
                refine WL_nil ?_
                refine WC_seq ?_
                refine WC_cond rfl (fun hc6 => ?_) (fun hc6 => ?_)
                · have hc6 := of_decide_eq_true hc6
                  refine WC_skip ?_
                  refine WC_seq ?_
                  refine WC_block ?_
                  refine WC_seq ?_
                  refine WC_region ?_
                  refine WL_det rfl (det_idxP Try.underlying52 Try.sizeOf59 rfl rfl (rfl) (by omega) (fun w hw => RdP.far hw hL)) ?_
                  dsimp only [put, List.take, List.drop, List.set, ev, nth, List.nil_append, List.cons_append, md, Nat.reducePow, Nat.reduceAdd, Nat.reduceMul]
                  refine WL_det rfl (det_loadP Try.underlying59 rfl i59 rfl (fun w hw => RdP.far hw hL) (by omega)) ?_
                  dsimp only [put, List.take, List.drop, List.set, ev, nth, List.nil_append, List.cons_append, md, Nat.reducePow, Nat.reduceAdd, Nat.reduceMul]
                  refine WL_relAt 1 rfl (rel_alloc Try.zeroValue59 rfl) ?_
                  rintro _ _ ⟨b1, rfl, rfl⟩
                  dsimp only [put, List.take, List.drop, List.set, ev, nth, List.nil_append, List.cons_append, md, Nat.reducePow, Nat.reduceAdd, Nat.reduceMul]
                  refine WL_chg rfl (chg_storeWn 1 _ rfl rfl rfl Try.sizeOf59 rfl rfl rfl (pk_one _)) ?_
                  rintro _ _ rfl
                  dsimp only [put, List.take, List.drop, List.set, ev, nth, List.nil_append, List.cons_append, md, Nat.reducePow, Nat.reduceAdd, Nat.reduceMul]
                  refine WL_nil ?_
                  refine WC_seq ?_
                  by_cases hA : (p.getD (i - 1) 0, p.getD i 0) ∈ L.take q
                  · rw [decide_eq_true hA]
                    refine WC_draw [[], [0], [0, 1], [0, 1, 2], [0, 1], [0, 1], [0, 1, 5], [0, 1, 4, 5, 6], [0, 1, 4, 5, 6, 7], [0, 1, 2, 3, 4, 5, 6, 7, 8], [0, 1, 2, 3, 4, 5, 6, 7, 8, 9], [0, 1, 2, 3, 4, 5, 6, 7, 8, 9, 10], [0, 1, 2, 3, 4, 5, 6, 7, 8, 9, 10, 11], [0, 1, 2, 3, 4, 5, 6, 7, 8, 9, 10], [0, 1, 2, 3, 4, 5, 6, 7, 8, 9, 10], [0, 1, 2, 3, 4, 5, 6, 7, 8, 9, 10, 13, 14], [0, 1, 2, 3, 4, 5, 6, 7, 8, 9, 10, 13, 14, 15], [0, 1, 2, 3, 4, 5, 6, 7, 8, 9, 10, 11, 12, 13, 14, 15, 16], [0, 1, 2, 3, 4, 5, 6, 7, 8, 9, 10, 11, 12, 13, 14, 15, 16, 17], [0, 1, 2, 3, 4, 5, 6, 7, 8, 9, 10, 11, 12, 13, 14, 15, 16, 17, 18], [0, 1, 2, 3, 4, 5, 6, 7, 8, 9, 10, 11, 12, 13, 14, 15, 16, 17, 18, 19]] [] 138 [] (List.nil_sublist _) mixed rfl (by decide) ?_
                    refine RW.pure rfl rfl (fun _ => rfl) (fun V hV => det_move) (fun _ _ _ => rfl) ?_
                    dsimp only [put, List.set, ev, nth, List.nil_append, List.cons_append, md, Nat.reducePow, Nat.reduceAdd, Nat.reduceMul]
                    refine RW.pure rfl rfl (fun _ => rfl) (fun V hV => det_move) (fun _ _ _ => rfl) ?_
                    dsimp only [put, List.set, ev, nth, List.nil_append, List.cons_append, md, Nat.reducePow, Nat.reduceAdd, Nat.reduceMul]
                    refine RW.skip rfl rfl (fun _ => rfl) ?_
                    dsimp only [put, List.set, ev, nth, List.nil_append, List.cons_append, md, Nat.reducePow, Nat.reduceAdd, Nat.reduceMul]
                    refine RW.skip rfl rfl (fun _ => rfl) ?_
                    dsimp only [put, List.set, ev, nth, List.nil_append, List.cons_append, md, Nat.reducePow, Nat.reduceAdd, Nat.reduceMul]
                    refine RW.skip rfl rfl (fun _ => rfl) ?_
                    dsimp only [put, List.set, ev, nth, List.nil_append, List.cons_append, md, Nat.reducePow, Nat.reduceAdd, Nat.reduceMul]
                    refine RW.skip rfl rfl (fun _ => rfl) ?_
                    dsimp only [put, List.set, ev, nth, List.nil_append, List.cons_append, md, Nat.reducePow, Nat.reduceAdd, Nat.reduceMul]
                    refine RW.skip rfl rfl (fun _ => rfl) ?_
                    dsimp only [put, List.set, ev, nth, List.nil_append, List.cons_append, md, Nat.reducePow, Nat.reduceAdd, Nat.reduceMul]
                    refine RW.skip rfl rfl (fun _ => rfl) ?_
                    dsimp only [put, List.set, ev, nth, List.nil_append, List.cons_append, md, Nat.reducePow, Nat.reduceAdd, Nat.reduceMul]
                    refine RW.skip rfl rfl (fun _ => rfl) ?_
                    dsimp only [put, List.set, ev, nth, List.nil_append, List.cons_append, md, Nat.reducePow, Nat.reduceAdd, Nat.reduceMul]
                    refine RW.skip rfl rfl (fun _ => rfl) ?_
                    dsimp only [put, List.set, ev, nth, List.nil_append, List.cons_append, md, Nat.reducePow, Nat.reduceAdd, Nat.reduceMul]
                    refine RW.skip rfl rfl (fun _ => rfl) ?_
                    dsimp only [put, List.set, ev, nth, List.nil_append, List.cons_append, md, Nat.reducePow, Nat.reduceAdd, Nat.reduceMul]
                    refine RW.skip rfl rfl (fun _ => rfl) ?_
                    dsimp only [put, List.set, ev, nth, List.nil_append, List.cons_append, md, Nat.reducePow, Nat.reduceAdd, Nat.reduceMul]
                    refine RW.skip rfl rfl (fun _ => rfl) ?_
                    dsimp only [put, List.set, ev, nth, List.nil_append, List.cons_append, md, Nat.reducePow, Nat.reduceAdd, Nat.reduceMul]
                    refine RW.skip rfl rfl (fun _ => rfl) ?_
                    dsimp only [put, List.set, ev, nth, List.nil_append, List.cons_append, md, Nat.reducePow, Nat.reduceAdd, Nat.reduceMul]
                    refine RW.skip rfl rfl (fun _ => rfl) ?_
                    dsimp only [put, List.set, ev, nth, List.nil_append, List.cons_append, md, Nat.reducePow, Nat.reduceAdd, Nat.reduceMul]
                    refine RW.skip rfl rfl (fun _ => rfl) ?_
                    dsimp only [put, List.set, ev, nth, List.nil_append, List.cons_append, md, Nat.reducePow, Nat.reduceAdd, Nat.reduceMul]
                    refine RW.skip rfl rfl (fun _ => rfl) ?_
                    dsimp only [put, List.set, ev, nth, List.nil_append, List.cons_append, md, Nat.reducePow, Nat.reduceAdd, Nat.reduceMul]
                    refine RW.skip rfl rfl (fun _ => rfl) ?_
                    dsimp only [put, List.set, ev, nth, List.nil_append, List.cons_append, md, Nat.reducePow, Nat.reduceAdd, Nat.reduceMul]
                    refine RW.skip rfl rfl (fun _ => rfl) ?_
                    dsimp only [put, List.set, ev, nth, List.nil_append, List.cons_append, md, Nat.reducePow, Nat.reduceAdd, Nat.reduceMul]
                    refine RW.pure rfl rfl (fun _ => rfl) (fun V hV => Det.bv (decide ((p.getD (i - 1) 0, p.getD i 0) ∈ L.take (q + 1))) (det_pick_true rfl) ((decide_eq_true ((take_mem (by omega) _).2 (.inl hA))).symm)) (fun _ _ _ => rfl) ?_
                    dsimp only [put, List.set, ev, nth, List.nil_append, List.cons_append, md, Nat.reducePow, Nat.reduceAdd, Nat.reduceMul]
                    refine RW.pure rfl rfl (fun _ => rfl) (fun V hV => det_assign) (fun _ _ _ => rfl) ?_
                    dsimp only [put, List.set, ev, nth, List.nil_append, List.cons_append, md, Nat.reducePow, Nat.reduceAdd, Nat.reduceMul]
                    refine RW.done (fun V => _ ++ flat [] V) rfl rfl (fun _ => rfl) (fun V hV => ?_)
                    try simp only [flat_nil, List.append_nil]
                    try dsimp only [put, blk, flat_nil, List.append_nil, List.append, List.eraseIdx, List.set, ev, nth, List.nil_append, List.cons_append, md, Nat.reducePow, Nat.reduceAdd, Nat.reduceMul]
                    refine WC_seq ?_
                    by_cases hC : (L.getD q (0, 0)).1 ≠ p.getD 0 0
                    · refine WC_draw [[], [0], [], [2], [2, 3], [0, 1, 2, 3, 4], [0, 1, 2, 3, 4, 5], [0, 1, 2, 3, 4, 5, 6], [0, 1, 2, 3, 4, 5, 6, 7], [0, 1, 2, 3, 4, 5, 6], [0, 1, 2, 3, 4, 5, 6, 7, 8, 9], [0, 1, 2, 3, 4, 5, 6, 7, 8, 9, 10], [0, 1, 2, 3, 4, 5, 6, 7, 8, 9, 10, 11], [0, 1, 2, 3, 4, 5, 6, 7, 8, 9, 10, 11, 12], [0, 1, 2, 3, 4, 5, 6, 7, 8, 9, 10, 11, 12, 13], [0, 1, 2, 3, 4, 5, 6, 7, 8, 9, 10, 11, 12, 13, 14], [0, 1, 2, 3, 4, 5, 6, 7, 8, 9, 10, 11, 12, 13, 14, 15]] [] 138 [] (List.nil_sublist _) mixed rfl (by decide) ?_
                      refine RW.pure rfl rfl (fun _ => rfl) (fun V hV => det_idxA (j := 0) Try.underlying59 Try.sizeOf3 rfl rfl (rfl) (by omega)) (fun _ _ _ => rfl) ?_
                      dsimp only [put, List.set, ev, nth, List.nil_append, List.cons_append, md, Nat.reducePow, Nat.reduceAdd, Nat.reduceMul]
                      refine RW.det [] rfl rfl rfl rfl (fun _ => rfl) (fun V hV => Det.rel (det_load 1 Try.isAgg3 rfl rfl rfl)) (fun _ _ _ => rfl) ?_
                      dsimp only [put, List.set, ev, nth, List.nil_append, List.cons_append, md, Nat.reducePow, Nat.reduceAdd, Nat.reduceMul]
                      refine RW.pure rfl rfl (fun _ => rfl) (fun V hV => det_move) (fun _ _ _ => rfl) ?_
                      dsimp only [put, List.set, ev, nth, List.nil_append, List.cons_append, md, Nat.reducePow, Nat.reduceAdd, Nat.reduceMul]
                      refine RW.det [] rfl rfl rfl rfl (fun _ => rfl) (fun V hV => Det.rel (det_idxR (j := 0) Try.underlying43 Try.sizeOf3 rfl rfl (rfl) (by rw [iv_len]; omega) (fun w hw => RowO.rd hw 0 rfl h1))) (fun _ _ _ => rfl) ?_
                      dsimp only [put, List.set, ev, nth, List.nil_append, List.cons_append, md, Nat.reducePow, Nat.reduceAdd, Nat.reduceMul]
                      refine RW.det [] rfl rfl rfl rfl (fun _ => rfl) (fun V hV => Det.rel (det_loadR Try.isAgg3 rfl (fun w hw => RowO.rd hw 0 rfl h1) (iv_at p (by omega)))) (fun _ _ _ => rfl) ?_
                      dsimp only [put, List.set, ev, nth, List.nil_append, List.cons_append, md, Nat.reducePow, Nat.reduceAdd, Nat.reduceMul]
                      refine RW.pure rfl rfl (fun _ => rfl) (fun V hV => Det.bv false (det_eqlz rfl rfl) (decide_eq_false hC)) (fun _ _ _ => rfl) ?_
                      dsimp only [put, List.set, ev, nth, List.nil_append, List.cons_append, md, Nat.reducePow, Nat.reduceAdd, Nat.reduceMul]
                      refine RW.pure rfl rfl (fun _ => rfl) (fun V hV => det_move) (fun _ _ _ => rfl) ?_
                      dsimp only [put, List.set, ev, nth, List.nil_append, List.cons_append, md, Nat.reducePow, Nat.reduceAdd, Nat.reduceMul]
                      refine RW.skip rfl rfl (fun _ => rfl) ?_
                      dsimp only [put, List.set, ev, nth, List.nil_append, List.cons_append, md, Nat.reducePow, Nat.reduceAdd, Nat.reduceMul]
                      refine RW.skip rfl rfl (fun _ => rfl) ?_
                      dsimp only [put, List.set, ev, nth, List.nil_append, List.cons_append, md, Nat.reducePow, Nat.reduceAdd, Nat.reduceMul]
                      refine RW.skip rfl rfl (fun _ => rfl) ?_
                      dsimp only [put, List.set, ev, nth, List.nil_append, List.cons_append, md, Nat.reducePow, Nat.reduceAdd, Nat.reduceMul]
                      refine RW.skip rfl rfl (fun _ => rfl) ?_
                      dsimp only [put, List.set, ev, nth, List.nil_append, List.cons_append, md, Nat.reducePow, Nat.reduceAdd, Nat.reduceMul]
                      refine RW.pure rfl rfl (fun _ => rfl) (fun V hV => det_pick_false rfl) (fun _ _ _ => rfl) ?_
                      dsimp only [put, List.set, ev, nth, List.nil_append, List.cons_append, md, Nat.reducePow, Nat.reduceAdd, Nat.reduceMul]
                      refine RW.pure rfl rfl (fun _ => rfl) (fun V hV => det_move) (fun _ _ _ => rfl) ?_
                      dsimp only [put, List.set, ev, nth, List.nil_append, List.cons_append, md, Nat.reducePow, Nat.reduceAdd, Nat.reduceMul]
                      refine RW.skip rfl rfl (fun _ => rfl) ?_
                      dsimp only [put, List.set, ev, nth, List.nil_append, List.cons_append, md, Nat.reducePow, Nat.reduceAdd, Nat.reduceMul]
                      refine RW.skip rfl rfl (fun _ => rfl) ?_
                      dsimp only [put, List.set, ev, nth, List.nil_append, List.cons_append, md, Nat.reducePow, Nat.reduceAdd, Nat.reduceMul]
                      refine RW.skip rfl rfl (fun _ => rfl) ?_
                      dsimp only [put, List.set, ev, nth, List.nil_append, List.cons_append, md, Nat.reducePow, Nat.reduceAdd, Nat.reduceMul]
                      refine RW.pure rfl rfl (fun _ => rfl) (fun V hV => det_pick_false rfl) (fun _ _ _ => rfl) ?_
                      dsimp only [put, List.set, ev, nth, List.nil_append, List.cons_append, md, Nat.reducePow, Nat.reduceAdd, Nat.reduceMul]
                      refine RW.done (fun V => _ ++ flat [] V) rfl rfl (fun _ => rfl) (fun V hV => ?_)
                      try simp only [flat_nil, List.append_nil]
                      try dsimp only [put, blk, flat_nil, List.append_nil, List.append, List.eraseIdx, List.set, ev, nth, List.nil_append, List.cons_append, md, Nat.reducePow, Nat.reduceAdd, Nat.reduceMul]
                      refine WC.forget (.cons_cons _ (.cons _ (List.Sublist.refl _))) ?_
                      refine WC_cond_false rfl ?_
                      refine WC_skip ?_
                      refine WC_region ?_
                      refine WL_det rfl (det_addi (q := 1) rfl rfl (by omega)) ?_
                      dsimp only [put, List.take, List.drop, List.set, ev, nth, List.nil_append, List.cons_append, md, Nat.reducePow, Nat.reduceAdd, Nat.reduceMul]
                      refine WL_det rfl (det_move) ?_
                      dsimp only [put, List.take, List.drop, List.set, ev, nth, List.nil_append, List.cons_append, md, Nat.reducePow, Nat.reduceAdd, Nat.reduceMul]
                      refine WL_nil ?_
                      refine ⟨q + 1, ?_, ?_, ?_, ?_⟩
                      · rfl
                      · rfl
                      · omega
                      · omega
                    · by_cases hD : (L.getD q (0, 0)).2 = to
                      · have hC := Classical.not_not.1 hC
                        refine WC_draw [[], [0], [], [2], [2, 3], [0, 1, 2, 3, 4], [0, 1, 2, 3, 4, 5], [0, 1, 2, 3, 4, 5, 6], [0, 1, 2, 3, 4, 5, 6, 7], [0, 1, 2, 3, 4, 5, 6], [0, 1, 2, 3, 4, 5, 6, 7, 8, 9], [0, 1, 2, 3, 4, 5, 6, 7, 8, 9, 10], [0, 1, 2, 3, 4, 5, 6, 7, 8, 9, 10, 11], [0, 1, 2, 3, 4, 5, 6, 7, 8, 9, 10, 11, 12], [0, 1, 2, 3, 4, 5, 6, 7, 8, 9, 10, 11, 12, 13], [0, 1, 2, 3, 4, 5, 6, 7, 8, 9, 10, 11, 12, 13, 14], [0, 1, 2, 3, 4, 5, 6, 7, 8, 9, 10, 11, 12, 13, 14, 15]] [] 138 [] (List.nil_sublist _) mixed rfl (by decide) ?_
                        refine RW.pure rfl rfl (fun _ => rfl) (fun V hV => det_idxA (j := 0) Try.underlying59 Try.sizeOf3 rfl rfl (rfl) (by omega)) (fun _ _ _ => rfl) ?_
                        dsimp only [put, List.set, ev, nth, List.nil_append, List.cons_append, md, Nat.reducePow, Nat.reduceAdd, Nat.reduceMul]
                        refine RW.det [] rfl rfl rfl rfl (fun _ => rfl) (fun V hV => Det.rel (det_load 1 Try.isAgg3 rfl rfl rfl)) (fun _ _ _ => rfl) ?_
                        dsimp only [put, List.set, ev, nth, List.nil_append, List.cons_append, md, Nat.reducePow, Nat.reduceAdd, Nat.reduceMul]
                        refine RW.pure rfl rfl (fun _ => rfl) (fun V hV => det_move) (fun _ _ _ => rfl) ?_
                        dsimp only [put, List.set, ev, nth, List.nil_append, List.cons_append, md, Nat.reducePow, Nat.reduceAdd, Nat.reduceMul]
                        refine RW.det [] rfl rfl rfl rfl (fun _ => rfl) (fun V hV => Det.rel (det_idxR (j := 0) Try.underlying43 Try.sizeOf3 rfl rfl (rfl) (by rw [iv_len]; omega) (fun w hw => RowO.rd hw 0 rfl h1))) (fun _ _ _ => rfl) ?_
                        dsimp only [put, List.set, ev, nth, List.nil_append, List.cons_append, md, Nat.reducePow, Nat.reduceAdd, Nat.reduceMul]
                        refine RW.det [] rfl rfl rfl rfl (fun _ => rfl) (fun V hV => Det.rel (det_loadR Try.isAgg3 rfl (fun w hw => RowO.rd hw 0 rfl h1) (iv_at p (by omega)))) (fun _ _ _ => rfl) ?_
                        dsimp only [put, List.set, ev, nth, List.nil_append, List.cons_append, md, Nat.reducePow, Nat.reduceAdd, Nat.reduceMul]
                        refine RW.pure rfl rfl (fun _ => rfl) (fun V hV => Det.bv true (det_eqlz rfl rfl) (decide_eq_true hC)) (fun _ _ _ => rfl) ?_
                        dsimp only [put, List.set, ev, nth, List.nil_append, List.cons_append, md, Nat.reducePow, Nat.reduceAdd, Nat.reduceMul]
                        refine RW.pure rfl rfl (fun _ => rfl) (fun V hV => det_move) (fun _ _ _ => rfl) ?_
                        dsimp only [put, List.set, ev, nth, List.nil_append, List.cons_append, md, Nat.reducePow, Nat.reduceAdd, Nat.reduceMul]
                        refine RW.pure rfl rfl (fun _ => rfl) (fun V hV => det_idxA (j := 1) Try.underlying59 Try.sizeOf3 rfl rfl (rfl) (by omega)) (fun _ _ _ => rfl) ?_
                        dsimp only [put, List.set, ev, nth, List.nil_append, List.cons_append, md, Nat.reducePow, Nat.reduceAdd, Nat.reduceMul]
                        refine RW.det [] rfl rfl rfl rfl (fun _ => rfl) (fun V hV => Det.rel (det_load 1 Try.isAgg3 rfl rfl rfl)) (fun _ _ _ => rfl) ?_
                        dsimp only [put, List.set, ev, nth, List.nil_append, List.cons_append, md, Nat.reducePow, Nat.reduceAdd, Nat.reduceMul]
                        refine RW.pure rfl rfl (fun _ => rfl) (fun V hV => det_move) (fun _ _ _ => rfl) ?_
                        dsimp only [put, List.set, ev, nth, List.nil_append, List.cons_append, md, Nat.reducePow, Nat.reduceAdd, Nat.reduceMul]
                        refine RW.pure rfl rfl (fun _ => rfl) (fun V hV => Det.bv true (det_eqlz rfl rfl) (decide_eq_true hD)) (fun _ _ _ => rfl) ?_
                        dsimp only [put, List.set, ev, nth, List.nil_append, List.cons_append, md, Nat.reducePow, Nat.reduceAdd, Nat.reduceMul]
                        refine RW.pure rfl rfl (fun _ => rfl) (fun V hV => det_pick_true rfl) (fun _ _ _ => rfl) ?_
                        dsimp only [put, List.set, ev, nth, List.nil_append, List.cons_append, md, Nat.reducePow, Nat.reduceAdd, Nat.reduceMul]
                        refine RW.pure rfl rfl (fun _ => rfl) (fun V hV => det_move) (fun _ _ _ => rfl) ?_
                        dsimp only [put, List.set, ev, nth, List.nil_append, List.cons_append, md, Nat.reducePow, Nat.reduceAdd, Nat.reduceMul]
                        refine RW.pure rfl rfl (fun _ => rfl) (fun V hV => det_move) (fun _ _ _ => rfl) ?_
                        dsimp only [put, List.set, ev, nth, List.nil_append, List.cons_append, md, Nat.reducePow, Nat.reduceAdd, Nat.reduceMul]
                        refine RW.det [] rfl rfl rfl rfl (fun _ => rfl) (fun V hV => Det.rel (det_lenR Try.underlying43 rfl (fun w hw => RowO.rd hw 0 rfl h1) (iv_len p))) (fun _ _ _ => rfl) ?_
                        dsimp only [put, List.set, ev, nth, List.nil_append, List.cons_append, md, Nat.reducePow, Nat.reduceAdd, Nat.reduceMul]
                        refine RW.pure rfl rfl (fun _ => rfl) (fun V hV => Det.bv false (det_gtr (q := 2) rfl rfl) (decide_eq_false fun h => hok.short (by omega) (by have := getD_mem2 (L := L) (q := q) (by omega); rwa [hC, hD] at this))) (fun _ _ _ => rfl) ?_
                        dsimp only [put, List.set, ev, nth, List.nil_append, List.cons_append, md, Nat.reducePow, Nat.reduceAdd, Nat.reduceMul]
                        refine RW.pure rfl rfl (fun _ => rfl) (fun V hV => det_pick_true rfl) (fun _ _ _ => rfl) ?_
                        dsimp only [put, List.set, ev, nth, List.nil_append, List.cons_append, md, Nat.reducePow, Nat.reduceAdd, Nat.reduceMul]
                        refine RW.done (fun V => _ ++ flat [] V) rfl rfl (fun _ => rfl) (fun V hV => ?_)
                        try simp only [flat_nil, List.append_nil]
                        try dsimp only [put, blk, flat_nil, List.append_nil, List.append, List.eraseIdx, List.set, ev, nth, List.nil_append, List.cons_append, md, Nat.reducePow, Nat.reduceAdd, Nat.reduceMul]
                        refine WC.forget (.cons_cons _ (.cons _ (List.Sublist.refl _))) ?_
                        refine WC_cond_false rfl ?_
                        refine WC_skip ?_
                        refine WC_region ?_
                        refine WL_det rfl (det_addi (q := 1) rfl rfl (by omega)) ?_
                        dsimp only [put, List.take, List.drop, List.set, ev, nth, List.nil_append, List.cons_append, md, Nat.reducePow, Nat.reduceAdd, Nat.reduceMul]
                        refine WL_det rfl (det_move) ?_
                        dsimp only [put, List.take, List.drop, List.set, ev, nth, List.nil_append, List.cons_append, md, Nat.reducePow, Nat.reduceAdd, Nat.reduceMul]
                        refine WL_nil ?_
                        refine ⟨q + 1, ?_, ?_, ?_, ?_⟩
                        · rfl
                        · rfl
                        · omega
                        · omega
                      · have hC := Classical.not_not.1 hC
                        refine WC_draw [[], [0], [], [2], [2, 3], [0, 1, 2, 3, 4], [0, 1, 2, 3, 4, 5], [0, 1, 2, 3, 4, 5, 6], [0, 1, 2, 3, 4, 5, 6, 7], [0, 1, 2, 3, 4, 5, 6], [0, 1, 2, 3, 4, 5, 6, 7, 8, 9], [0, 1, 2, 3, 4, 5, 6, 7, 8, 9, 10], [0, 1, 2, 3, 4, 5, 6, 7, 8, 9, 10, 11], [0, 1, 2, 3, 4, 5, 6, 7, 8, 9, 10, 11, 12], [0, 1, 2, 3, 4, 5, 6, 7, 8, 9, 10, 11, 12, 13], [0, 1, 2, 3, 4, 5, 6, 7, 8, 9, 10, 11, 12, 13, 14], [0, 1, 2, 3, 4, 5, 6, 7, 8, 9, 10, 11, 12, 13, 14, 15]] [] 138 [] (List.nil_sublist _) mixed rfl (by decide) ?_
                        refine RW.pure rfl rfl (fun _ => rfl) (fun V hV => det_idxA (j := 0) Try.underlying59 Try.sizeOf3 rfl rfl (rfl) (by omega)) (fun _ _ _ => rfl) ?_
                        dsimp only [put, List.set, ev, nth, List.nil_append, List.cons_append, md, Nat.reducePow, Nat.reduceAdd, Nat.reduceMul]
                        refine RW.det [] rfl rfl rfl rfl (fun _ => rfl) (fun V hV => Det.rel (det_load 1 Try.isAgg3 rfl rfl rfl)) (fun _ _ _ => rfl) ?_
                        dsimp only [put, List.set, ev, nth, List.nil_append, List.cons_append, md, Nat.reducePow, Nat.reduceAdd, Nat.reduceMul]
                        refine RW.pure rfl rfl (fun _ => rfl) (fun V hV => det_move) (fun _ _ _ => rfl) ?_
                        dsimp only [put, List.set, ev, nth, List.nil_append, List.cons_append, md, Nat.reducePow, Nat.reduceAdd, Nat.reduceMul]
                        refine RW.det [] rfl rfl rfl rfl (fun _ => rfl) (fun V hV => Det.rel (det_idxR (j := 0) Try.underlying43 Try.sizeOf3 rfl rfl (rfl) (by rw [iv_len]; omega) (fun w hw => RowO.rd hw 0 rfl h1))) (fun _ _ _ => rfl) ?_
                        dsimp only [put, List.set, ev, nth, List.nil_append, List.cons_append, md, Nat.reducePow, Nat.reduceAdd, Nat.reduceMul]
                        refine RW.det [] rfl rfl rfl rfl (fun _ => rfl) (fun V hV => Det.rel (det_loadR Try.isAgg3 rfl (fun w hw => RowO.rd hw 0 rfl h1) (iv_at p (by omega)))) (fun _ _ _ => rfl) ?_
                        dsimp only [put, List.set, ev, nth, List.nil_append, List.cons_append, md, Nat.reducePow, Nat.reduceAdd, Nat.reduceMul]
                        refine RW.pure rfl rfl (fun _ => rfl) (fun V hV => Det.bv true (det_eqlz rfl rfl) (decide_eq_true hC)) (fun _ _ _ => rfl) ?_
                        dsimp only [put, List.set, ev, nth, List.nil_append, List.cons_append, md, Nat.reducePow, Nat.reduceAdd, Nat.reduceMul]
                        refine RW.pure rfl rfl (fun _ => rfl) (fun V hV => det_move) (fun _ _ _ => rfl) ?_
                        dsimp only [put, List.set, ev, nth, List.nil_append, List.cons_append, md, Nat.reducePow, Nat.reduceAdd, Nat.reduceMul]
                        refine RW.pure rfl rfl (fun _ => rfl) (fun V hV => det_idxA (j := 1) Try.underlying59 Try.sizeOf3 rfl rfl (rfl) (by omega)) (fun _ _ _ => rfl) ?_
                        dsimp only [put, List.set, ev, nth, List.nil_append, List.cons_append, md, Nat.reducePow, Nat.reduceAdd, Nat.reduceMul]
                        refine RW.det [] rfl rfl rfl rfl (fun _ => rfl) (fun V hV => Det.rel (det_load 1 Try.isAgg3 rfl rfl rfl)) (fun _ _ _ => rfl) ?_
                        dsimp only [put, List.set, ev, nth, List.nil_append, List.cons_append, md, Nat.reducePow, Nat.reduceAdd, Nat.reduceMul]
                        refine RW.pure rfl rfl (fun _ => rfl) (fun V hV => det_move) (fun _ _ _ => rfl) ?_
                        dsimp only [put, List.set, ev, nth, List.nil_append, List.cons_append, md, Nat.reducePow, Nat.reduceAdd, Nat.reduceMul]
                        refine RW.pure rfl rfl (fun _ => rfl) (fun V hV => Det.bv false (det_eqlz rfl rfl) (decide_eq_false hD)) (fun _ _ _ => rfl) ?_
                        dsimp only [put, List.set, ev, nth, List.nil_append, List.cons_append, md, Nat.reducePow, Nat.reduceAdd, Nat.reduceMul]
                        refine RW.pure rfl rfl (fun _ => rfl) (fun V hV => det_pick_true rfl) (fun _ _ _ => rfl) ?_
                        dsimp only [put, List.set, ev, nth, List.nil_append, List.cons_append, md, Nat.reducePow, Nat.reduceAdd, Nat.reduceMul]
                        refine RW.pure rfl rfl (fun _ => rfl) (fun V hV => det_move) (fun _ _ _ => rfl) ?_
                        dsimp only [put, List.set, ev, nth, List.nil_append, List.cons_append, md, Nat.reducePow, Nat.reduceAdd, Nat.reduceMul]
                        refine RW.skip rfl rfl (fun _ => rfl) ?_
                        dsimp only [put, List.set, ev, nth, List.nil_append, List.cons_append, md, Nat.reducePow, Nat.reduceAdd, Nat.reduceMul]
                        refine RW.skip rfl rfl (fun _ => rfl) ?_
                        dsimp only [put, List.set, ev, nth, List.nil_append, List.cons_append, md, Nat.reducePow, Nat.reduceAdd, Nat.reduceMul]
                        refine RW.skip rfl rfl (fun _ => rfl) ?_
                        dsimp only [put, List.set, ev, nth, List.nil_append, List.cons_append, md, Nat.reducePow, Nat.reduceAdd, Nat.reduceMul]
                        refine RW.pure rfl rfl (fun _ => rfl) (fun V hV => det_pick_false rfl) (fun _ _ _ => rfl) ?_
                        dsimp only [put, List.set, ev, nth, List.nil_append, List.cons_append, md, Nat.reducePow, Nat.reduceAdd, Nat.reduceMul]
                        refine RW.done (fun V => _ ++ flat [] V) rfl rfl (fun _ => rfl) (fun V hV => ?_)
                        try simp only [flat_nil, List.append_nil]
                        try dsimp only [put, blk, flat_nil, List.append_nil, List.append, List.eraseIdx, List.set, ev, nth, List.nil_append, List.cons_append, md, Nat.reducePow, Nat.reduceAdd, Nat.reduceMul]
                        refine WC.forget (.cons_cons _ (.cons _ (List.Sublist.refl _))) ?_
                        refine WC_cond_false rfl ?_
                        refine WC_skip ?_
                        refine WC_region ?_
                        refine WL_det rfl (det_addi (q := 1) rfl rfl (by omega)) ?_
                        dsimp only [put, List.take, List.drop, List.set, ev, nth, List.nil_append, List.cons_append, md, Nat.reducePow, Nat.reduceAdd, Nat.reduceMul]
                        refine WL_det rfl (det_move) ?_
                        dsimp only [put, List.take, List.drop, List.set, ev, nth, List.nil_append, List.cons_append, md, Nat.reducePow, Nat.reduceAdd, Nat.reduceMul]
                        refine WL_nil ?_
                        refine ⟨q + 1, ?_, ?_, ?_, ?_⟩
                        · rfl
                        · rfl
                        · omega
                        · omega
                  · by_cases hB : (L.getD q (0, 0)).1 = p.getD (i - 1) 0
                    · rw [decide_eq_false hA]
                      refine WC_draw [[], [0], [0, 1], [0, 1, 2], [0, 1], [0, 1], [0, 1, 5], [0, 1, 4, 5, 6], [0, 1, 4, 5, 6, 7], [0, 1, 2, 3, 4, 5, 6, 7, 8], [0, 1, 2, 3, 4, 5, 6, 7, 8, 9], [0, 1, 2, 3, 4, 5, 6, 7, 8, 9, 10], [0, 1, 2, 3, 4, 5, 6, 7, 8, 9, 10, 11], [0, 1, 2, 3, 4, 5, 6, 7, 8, 9, 10], [0, 1, 2, 3, 4, 5, 6, 7, 8, 9, 10], [0, 1, 2, 3, 4, 5, 6, 7, 8, 9, 10, 13, 14], [0, 1, 2, 3, 4, 5, 6, 7, 8, 9, 10, 13, 14, 15], [0, 1, 2, 3, 4, 5, 6, 7, 8, 9, 10, 11, 12, 13, 14, 15, 16], [0, 1, 2, 3, 4, 5, 6, 7, 8, 9, 10, 11, 12, 13, 14, 15, 16, 17], [0, 1, 2, 3, 4, 5, 6, 7, 8, 9, 10, 11, 12, 13, 14, 15, 16, 17, 18], [0, 1, 2, 3, 4, 5, 6, 7, 8, 9, 10, 11, 12, 13, 14, 15, 16, 17, 18, 19]] [] 138 [] (List.nil_sublist _) mixed rfl (by decide) ?_
                      refine RW.pure rfl rfl (fun _ => rfl) (fun V hV => det_move) (fun _ _ _ => rfl) ?_
                      dsimp only [put, List.set, ev, nth, List.nil_append, List.cons_append, md, Nat.reducePow, Nat.reduceAdd, Nat.reduceMul]
                      refine RW.pure rfl rfl (fun _ => rfl) (fun V hV => det_move) (fun _ _ _ => rfl) ?_
                      dsimp only [put, List.set, ev, nth, List.nil_append, List.cons_append, md, Nat.reducePow, Nat.reduceAdd, Nat.reduceMul]
                      refine RW.pure rfl rfl (fun _ => rfl) (fun V hV => det_idxA (j := 0) Try.underlying59 Try.sizeOf3 rfl rfl (rfl) (by omega)) (fun _ _ _ => rfl) ?_
                      dsimp only [put, List.set, ev, nth, List.nil_append, List.cons_append, md, Nat.reducePow, Nat.reduceAdd, Nat.reduceMul]
                      refine RW.det [] rfl rfl rfl rfl (fun _ => rfl) (fun V hV => Det.rel (det_load 1 Try.isAgg3 rfl rfl rfl)) (fun _ _ _ => rfl) ?_
                      dsimp only [put, List.set, ev, nth, List.nil_append, List.cons_append, md, Nat.reducePow, Nat.reduceAdd, Nat.reduceMul]
                      refine RW.pure rfl rfl (fun _ => rfl) (fun V hV => det_move) (fun _ _ _ => rfl) ?_
                      dsimp only [put, List.set, ev, nth, List.nil_append, List.cons_append, md, Nat.reducePow, Nat.reduceAdd, Nat.reduceMul]
                      refine RW.pure rfl rfl (fun _ => rfl) (fun V hV => det_move) (fun _ _ _ => rfl) ?_
                      dsimp only [put, List.set, ev, nth, List.nil_append, List.cons_append, md, Nat.reducePow, Nat.reduceAdd, Nat.reduceMul]
                      refine RW.pure rfl rfl (fun _ => rfl) (fun V hV => det_subi (q := 1) rfl rfl (by omega) (by omega)) (fun _ _ _ => rfl) ?_
                      dsimp only [put, List.set, ev, nth, List.nil_append, List.cons_append, md, Nat.reducePow, Nat.reduceAdd, Nat.reduceMul]
                      refine RW.det [] rfl rfl rfl rfl (fun _ => rfl) (fun V hV => Det.rel (det_idxR Try.underlying43 Try.sizeOf3 rfl rfl (rfl) (by rw [iv_len]; omega) (fun w hw => RowO.rd hw 0 rfl h1))) (fun _ _ _ => rfl) ?_
                      dsimp only [put, List.set, ev, nth, List.nil_append, List.cons_append, md, Nat.reducePow, Nat.reduceAdd, Nat.reduceMul]
                      refine RW.det [] rfl rfl rfl rfl (fun _ => rfl) (fun V hV => Det.rel (det_loadR Try.isAgg3 rfl (fun w hw => RowO.rd hw 0 rfl h1) (iv_at p (by omega)))) (fun _ _ _ => rfl) ?_
                      dsimp only [put, List.set, ev, nth, List.nil_append, List.cons_append, md, Nat.reducePow, Nat.reduceAdd, Nat.reduceMul]
                      refine RW.pure rfl rfl (fun _ => rfl) (fun V hV => Det.bv true (det_eqlz rfl rfl) (decide_eq_true hB)) (fun _ _ _ => rfl) ?_
                      dsimp only [put, List.set, ev, nth, List.nil_append, List.cons_append, md, Nat.reducePow, Nat.reduceAdd, Nat.reduceMul]
                      refine RW.pure rfl rfl (fun _ => rfl) (fun V hV => det_move) (fun _ _ _ => rfl) ?_
                      dsimp only [put, List.set, ev, nth, List.nil_append, List.cons_append, md, Nat.reducePow, Nat.reduceAdd, Nat.reduceMul]
                      refine RW.pure rfl rfl (fun _ => rfl) (fun V hV => det_idxA (j := 1) Try.underlying59 Try.sizeOf3 rfl rfl (rfl) (by omega)) (fun _ _ _ => rfl) ?_
                      dsimp only [put, List.set, ev, nth, List.nil_append, List.cons_append, md, Nat.reducePow, Nat.reduceAdd, Nat.reduceMul]
                      refine RW.det [] rfl rfl rfl rfl (fun _ => rfl) (fun V hV => Det.rel (det_load 1 Try.isAgg3 rfl rfl rfl)) (fun _ _ _ => rfl) ?_
                      dsimp only [put, List.set, ev, nth, List.nil_append, List.cons_append, md, Nat.reducePow, Nat.reduceAdd, Nat.reduceMul]
                      refine RW.pure rfl rfl (fun _ => rfl) (fun V hV => det_move) (fun _ _ _ => rfl) ?_
                      dsimp only [put, List.set, ev, nth, List.nil_append, List.cons_append, md, Nat.reducePow, Nat.reduceAdd, Nat.reduceMul]
                      refine RW.pure rfl rfl (fun _ => rfl) (fun V hV => det_move) (fun _ _ _ => rfl) ?_
                      dsimp only [put, List.set, ev, nth, List.nil_append, List.cons_append, md, Nat.reducePow, Nat.reduceAdd, Nat.reduceMul]
                      refine RW.det [] rfl rfl rfl rfl (fun _ => rfl) (fun V hV => Det.rel (det_idxR Try.underlying43 Try.sizeOf3 rfl rfl (rfl) (by rw [iv_len]; omega) (fun w hw => RowO.rd hw 0 rfl h1))) (fun _ _ _ => rfl) ?_
                      dsimp only [put, List.set, ev, nth, List.nil_append, List.cons_append, md, Nat.reducePow, Nat.reduceAdd, Nat.reduceMul]
                      refine RW.det [] rfl rfl rfl rfl (fun _ => rfl) (fun V hV => Det.rel (det_loadR Try.isAgg3 rfl (fun w hw => RowO.rd hw 0 rfl h1) (iv_at p (by omega)))) (fun _ _ _ => rfl) ?_
                      dsimp only [put, List.set, ev, nth, List.nil_append, List.cons_append, md, Nat.reducePow, Nat.reduceAdd, Nat.reduceMul]
                      refine RW.pure rfl rfl (fun _ => rfl) (fun V hV => det_eqlz rfl rfl) (fun _ _ _ => rfl) ?_
                      dsimp only [put, List.set, ev, nth, List.nil_append, List.cons_append, md, Nat.reducePow, Nat.reduceAdd, Nat.reduceMul]
                      refine RW.pure rfl rfl (fun _ => rfl) (fun V hV => det_pick_true rfl) (fun _ _ _ => rfl) ?_
                      dsimp only [put, List.set, ev, nth, List.nil_append, List.cons_append, md, Nat.reducePow, Nat.reduceAdd, Nat.reduceMul]
                      refine RW.pure rfl rfl (fun _ => rfl) (fun V hV => Det.bv (decide ((p.getD (i - 1) 0, p.getD i 0) ∈ L.take (q + 1))) (det_pick_false rfl) (decide_eq_decide.2 ⟨fun h => (take_mem (by omega) _).2 (.inr ⟨hB, h⟩), fun h => by rcases (take_mem (by omega) _).1 h with h | h; exact absurd h hA; exact h.2⟩)) (fun _ _ _ => rfl) ?_
                      dsimp only [put, List.set, ev, nth, List.nil_append, List.cons_append, md, Nat.reducePow, Nat.reduceAdd, Nat.reduceMul]
                      refine RW.pure rfl rfl (fun _ => rfl) (fun V hV => det_assign) (fun _ _ _ => rfl) ?_
                      dsimp only [put, List.set, ev, nth, List.nil_append, List.cons_append, md, Nat.reducePow, Nat.reduceAdd, Nat.reduceMul]
                      refine RW.done (fun V => _ ++ flat [] V) rfl rfl (fun _ => rfl) (fun V hV => ?_)
                      try simp only [flat_nil, List.append_nil]
                      try dsimp only [put, blk, flat_nil, List.append_nil, List.append, List.eraseIdx, List.set, ev, nth, List.nil_append, List.cons_append, md, Nat.reducePow, Nat.reduceAdd, Nat.reduceMul]
                      refine WC_seq ?_
                      by_cases hC : (L.getD q (0, 0)).1 ≠ p.getD 0 0
                      · refine WC_draw [[], [0], [], [2], [2, 3], [0, 1, 2, 3, 4], [0, 1, 2, 3, 4, 5], [0, 1, 2, 3, 4, 5, 6], [0, 1, 2, 3, 4, 5, 6, 7], [0, 1, 2, 3, 4, 5, 6], [0, 1, 2, 3, 4, 5, 6, 7, 8, 9], [0, 1, 2, 3, 4, 5, 6, 7, 8, 9, 10], [0, 1, 2, 3, 4, 5, 6, 7, 8, 9, 10, 11], [0, 1, 2, 3, 4, 5, 6, 7, 8, 9, 10, 11, 12], [0, 1, 2, 3, 4, 5, 6, 7, 8, 9, 10, 11, 12, 13], [0, 1, 2, 3, 4, 5, 6, 7, 8, 9, 10, 11, 12, 13, 14], [0, 1, 2, 3, 4, 5, 6, 7, 8, 9, 10, 11, 12, 13, 14, 15]] [] 138 [] (List.nil_sublist _) mixed rfl (by decide) ?_
                        refine RW.pure rfl rfl (fun _ => rfl) (fun V hV => det_idxA (j := 0) Try.underlying59 Try.sizeOf3 rfl rfl (rfl) (by omega)) (fun _ _ _ => rfl) ?_
                        dsimp only [put, List.set, ev, nth, List.nil_append, List.cons_append, md, Nat.reducePow, Nat.reduceAdd, Nat.reduceMul]
                        refine RW.det [] rfl rfl rfl rfl (fun _ => rfl) (fun V hV => Det.rel (det_load 1 Try.isAgg3 rfl rfl rfl)) (fun _ _ _ => rfl) ?_
                        dsimp only [put, List.set, ev, nth, List.nil_append, List.cons_append, md, Nat.reducePow, Nat.reduceAdd, Nat.reduceMul]
                        refine RW.pure rfl rfl (fun _ => rfl) (fun V hV => det_move) (fun _ _ _ => rfl) ?_
                        dsimp only [put, List.set, ev, nth, List.nil_append, List.cons_append, md, Nat.reducePow, Nat.reduceAdd, Nat.reduceMul]
                        refine RW.det [] rfl rfl rfl rfl (fun _ => rfl) (fun V hV => Det.rel (det_idxR (j := 0) Try.underlying43 Try.sizeOf3 rfl rfl (rfl) (by rw [iv_len]; omega) (fun w hw => RowO.rd hw 0 rfl h1))) (fun _ _ _ => rfl) ?_
                        dsimp only [put, List.set, ev, nth, List.nil_append, List.cons_append, md, Nat.reducePow, Nat.reduceAdd, Nat.reduceMul]
                        refine RW.det [] rfl rfl rfl rfl (fun _ => rfl) (fun V hV => Det.rel (det_loadR Try.isAgg3 rfl (fun w hw => RowO.rd hw 0 rfl h1) (iv_at p (by omega)))) (fun _ _ _ => rfl) ?_
                        dsimp only [put, List.set, ev, nth, List.nil_append, List.cons_append, md, Nat.reducePow, Nat.reduceAdd, Nat.reduceMul]
                        refine RW.pure rfl rfl (fun _ => rfl) (fun V hV => Det.bv false (det_eqlz rfl rfl) (decide_eq_false hC)) (fun _ _ _ => rfl) ?_
                        dsimp only [put, List.set, ev, nth, List.nil_append, List.cons_append, md, Nat.reducePow, Nat.reduceAdd, Nat.reduceMul]
                        refine RW.pure rfl rfl (fun _ => rfl) (fun V hV => det_move) (fun _ _ _ => rfl) ?_
                        dsimp only [put, List.set, ev, nth, List.nil_append, List.cons_append, md, Nat.reducePow, Nat.reduceAdd, Nat.reduceMul]
                        refine RW.skip rfl rfl (fun _ => rfl) ?_
                        dsimp only [put, List.set, ev, nth, List.nil_append, List.cons_append, md, Nat.reducePow, Nat.reduceAdd, Nat.reduceMul]
                        refine RW.skip rfl rfl (fun _ => rfl) ?_
                        dsimp only [put, List.set, ev, nth, List.nil_append, List.cons_append, md, Nat.reducePow, Nat.reduceAdd, Nat.reduceMul]
                        refine RW.skip rfl rfl (fun _ => rfl) ?_
                        dsimp only [put, List.set, ev, nth, List.nil_append, List.cons_append, md, Nat.reducePow, Nat.reduceAdd, Nat.reduceMul]
                        refine RW.skip rfl rfl (fun _ => rfl) ?_
                        dsimp only [put, List.set, ev, nth, List.nil_append, List.cons_append, md, Nat.reducePow, Nat.reduceAdd, Nat.reduceMul]
                        refine RW.pure rfl rfl (fun _ => rfl) (fun V hV => det_pick_false rfl) (fun _ _ _ => rfl) ?_
                        dsimp only [put, List.set, ev, nth, List.nil_append, List.cons_append, md, Nat.reducePow, Nat.reduceAdd, Nat.reduceMul]
                        refine RW.pure rfl rfl (fun _ => rfl) (fun V hV => det_move) (fun _ _ _ => rfl) ?_
                        dsimp only [put, List.set, ev, nth, List.nil_append, List.cons_append, md, Nat.reducePow, Nat.reduceAdd, Nat.reduceMul]
                        refine RW.skip rfl rfl (fun _ => rfl) ?_
                        dsimp only [put, List.set, ev, nth, List.nil_append, List.cons_append, md, Nat.reducePow, Nat.reduceAdd, Nat.reduceMul]
                        refine RW.skip rfl rfl (fun _ => rfl) ?_
                        dsimp only [put, List.set, ev, nth, List.nil_append, List.cons_append, md, Nat.reducePow, Nat.reduceAdd, Nat.reduceMul]
                        refine RW.skip rfl rfl (fun _ => rfl) ?_
                        dsimp only [put, List.set, ev, nth, List.nil_append, List.cons_append, md, Nat.reducePow, Nat.reduceAdd, Nat.reduceMul]
                        refine RW.pure rfl rfl (fun _ => rfl) (fun V hV => det_pick_false rfl) (fun _ _ _ => rfl) ?_
                        dsimp only [put, List.set, ev, nth, List.nil_append, List.cons_append, md, Nat.reducePow, Nat.reduceAdd, Nat.reduceMul]
                        refine RW.done (fun V => _ ++ flat [] V) rfl rfl (fun _ => rfl) (fun V hV => ?_)
                        try simp only [flat_nil, List.append_nil]
                        try dsimp only [put, blk, flat_nil, List.append_nil, List.append, List.eraseIdx, List.set, ev, nth, List.nil_append, List.cons_append, md, Nat.reducePow, Nat.reduceAdd, Nat.reduceMul]
                        refine WC.forget (.cons_cons _ (.cons _ (List.Sublist.refl _))) ?_
                        refine WC_cond_false rfl ?_
                        refine WC_skip ?_
                        refine WC_region ?_
                        refine WL_det rfl (det_addi (q := 1) rfl rfl (by omega)) ?_
                        dsimp only [put, List.take, List.drop, List.set, ev, nth, List.nil_append, List.cons_append, md, Nat.reducePow, Nat.reduceAdd, Nat.reduceMul]
                        refine WL_det rfl (det_move) ?_
                        dsimp only [put, List.take, List.drop, List.set, ev, nth, List.nil_append, List.cons_append, md, Nat.reducePow, Nat.reduceAdd, Nat.reduceMul]
                        refine WL_nil ?_
                        refine ⟨q + 1, ?_, ?_, ?_, ?_⟩
                        · rfl
                        · rfl
                        · omega
                        · omega
                      · by_cases hD : (L.getD q (0, 0)).2 = to
                        · have hC := Classical.not_not.1 hC
                          refine WC_draw [[], [0], [], [2], [2, 3], [0, 1, 2, 3, 4], [0, 1, 2, 3, 4, 5], [0, 1, 2, 3, 4, 5, 6], [0, 1, 2, 3, 4, 5, 6, 7], [0, 1, 2, 3, 4, 5, 6], [0, 1, 2, 3, 4, 5, 6, 7, 8, 9], [0, 1, 2, 3, 4, 5, 6, 7, 8, 9, 10], [0, 1, 2, 3, 4, 5, 6, 7, 8, 9, 10, 11], [0, 1, 2, 3, 4, 5, 6, 7, 8, 9, 10, 11, 12], [0, 1, 2, 3, 4, 5, 6, 7, 8, 9, 10, 11, 12, 13], [0, 1, 2, 3, 4, 5, 6, 7, 8, 9, 10, 11, 12, 13, 14], [0, 1, 2, 3, 4, 5, 6, 7, 8, 9, 10, 11, 12, 13, 14, 15]] [] 138 [] (List.nil_sublist _) mixed rfl (by decide) ?_
                          refine RW.pure rfl rfl (fun _ => rfl) (fun V hV => det_idxA (j := 0) Try.underlying59 Try.sizeOf3 rfl rfl (rfl) (by omega)) (fun _ _ _ => rfl) ?_
                          dsimp only [put, List.set, ev, nth, List.nil_append, List.cons_append, md, Nat.reducePow, Nat.reduceAdd, Nat.reduceMul]
                          refine RW.det [] rfl rfl rfl rfl (fun _ => rfl) (fun V hV => Det.rel (det_load 1 Try.isAgg3 rfl rfl rfl)) (fun _ _ _ => rfl) ?_
                          dsimp only [put, List.set, ev, nth, List.nil_append, List.cons_append, md, Nat.reducePow, Nat.reduceAdd, Nat.reduceMul]
                          refine RW.pure rfl rfl (fun _ => rfl) (fun V hV => det_move) (fun _ _ _ => rfl) ?_
                          dsimp only [put, List.set, ev, nth, List.nil_append, List.cons_append, md, Nat.reducePow, Nat.reduceAdd, Nat.reduceMul]
                          refine RW.det [] rfl rfl rfl rfl (fun _ => rfl) (fun V hV => Det.rel (det_idxR (j := 0) Try.underlying43 Try.sizeOf3 rfl rfl (rfl) (by rw [iv_len]; omega) (fun w hw => RowO.rd hw 0 rfl h1))) (fun _ _ _ => rfl) ?_
                          dsimp only [put, List.set, ev, nth, List.nil_append, List.cons_append, md, Nat.reducePow, Nat.reduceAdd, Nat.reduceMul]
                          refine RW.det [] rfl rfl rfl rfl (fun _ => rfl) (fun V hV => Det.rel (det_loadR Try.isAgg3 rfl (fun w hw => RowO.rd hw 0 rfl h1) (iv_at p (by omega)))) (fun _ _ _ => rfl) ?_
                          dsimp only [put, List.set, ev, nth, List.nil_append, List.cons_append, md, Nat.reducePow, Nat.reduceAdd, Nat.reduceMul]
                          refine RW.pure rfl rfl (fun _ => rfl) (fun V hV => Det.bv true (det_eqlz rfl rfl) (decide_eq_true hC)) (fun _ _ _ => rfl) ?_
                          dsimp only [put, List.set, ev, nth, List.nil_append, List.cons_append, md, Nat.reducePow, Nat.reduceAdd, Nat.reduceMul]
                          refine RW.pure rfl rfl (fun _ => rfl) (fun V hV => det_move) (fun _ _ _ => rfl) ?_
                          dsimp only [put, List.set, ev, nth, List.nil_append, List.cons_append, md, Nat.reducePow, Nat.reduceAdd, Nat.reduceMul]
                          refine RW.pure rfl rfl (fun _ => rfl) (fun V hV => det_idxA (j := 1) Try.underlying59 Try.sizeOf3 rfl rfl (rfl) (by omega)) (fun _ _ _ => rfl) ?_
                          dsimp only [put, List.set, ev, nth, List.nil_append, List.cons_append, md, Nat.reducePow, Nat.reduceAdd, Nat.reduceMul]
                          refine RW.det [] rfl rfl rfl rfl (fun _ => rfl) (fun V hV => Det.rel (det_load 1 Try.isAgg3 rfl rfl rfl)) (fun _ _ _ => rfl) ?_
                          dsimp only [put, List.set, ev, nth, List.nil_append, List.cons_append, md, Nat.reducePow, Nat.reduceAdd, Nat.reduceMul]
                          refine RW.pure rfl rfl (fun _ => rfl) (fun V hV => det_move) (fun _ _ _ => rfl) ?_
                          dsimp only [put, List.set, ev, nth, List.nil_append, List.cons_append, md, Nat.reducePow, Nat.reduceAdd, Nat.reduceMul]
                          refine RW.pure rfl rfl (fun _ => rfl) (fun V hV => Det.bv true (det_eqlz rfl rfl) (decide_eq_true hD)) (fun _ _ _ => rfl) ?_
                          dsimp only [put, List.set, ev, nth, List.nil_append, List.cons_append, md, Nat.reducePow, Nat.reduceAdd, Nat.reduceMul]
                          refine RW.pure rfl rfl (fun _ => rfl) (fun V hV => det_pick_true rfl) (fun _ _ _ => rfl) ?_
                          dsimp only [put, List.set, ev, nth, List.nil_append, List.cons_append, md, Nat.reducePow, Nat.reduceAdd, Nat.reduceMul]
                          refine RW.pure rfl rfl (fun _ => rfl) (fun V hV => det_move) (fun _ _ _ => rfl) ?_
                          dsimp only [put, List.set, ev, nth, List.nil_append, List.cons_append, md, Nat.reducePow, Nat.reduceAdd, Nat.reduceMul]
                          refine RW.pure rfl rfl (fun _ => rfl) (fun V hV => det_move) (fun _ _ _ => rfl) ?_
                          dsimp only [put, List.set, ev, nth, List.nil_append, List.cons_append, md, Nat.reducePow, Nat.reduceAdd, Nat.reduceMul]
                          refine RW.det [] rfl rfl rfl rfl (fun _ => rfl) (fun V hV => Det.rel (det_lenR Try.underlying43 rfl (fun w hw => RowO.rd hw 0 rfl h1) (iv_len p))) (fun _ _ _ => rfl) ?_
                          dsimp only [put, List.set, ev, nth, List.nil_append, List.cons_append, md, Nat.reducePow, Nat.reduceAdd, Nat.reduceMul]
                          refine RW.pure rfl rfl (fun _ => rfl) (fun V hV => Det.bv false (det_gtr (q := 2) rfl rfl) (decide_eq_false fun h => hok.short (by omega) (by have := getD_mem2 (L := L) (q := q) (by omega); rwa [hC, hD] at this))) (fun _ _ _ => rfl) ?_
                          dsimp only [put, List.set, ev, nth, List.nil_append, List.cons_append, md, Nat.reducePow, Nat.reduceAdd, Nat.reduceMul]
                          refine RW.pure rfl rfl (fun _ => rfl) (fun V hV => det_pick_true rfl) (fun _ _ _ => rfl) ?_
                          dsimp only [put, List.set, ev, nth, List.nil_append, List.cons_append, md, Nat.reducePow, Nat.reduceAdd, Nat.reduceMul]
                          refine RW.done (fun V => _ ++ flat [] V) rfl rfl (fun _ => rfl) (fun V hV => ?_)
                          try simp only [flat_nil, List.append_nil]
                          try dsimp only [put, blk, flat_nil, List.append_nil, List.append, List.eraseIdx, List.set, ev, nth, List.nil_append, List.cons_append, md, Nat.reducePow, Nat.reduceAdd, Nat.reduceMul]
                          refine WC.forget (.cons_cons _ (.cons _ (List.Sublist.refl _))) ?_
                          refine WC_cond_false rfl ?_
                          refine WC_skip ?_
                          refine WC_region ?_
                          refine WL_det rfl (det_addi (q := 1) rfl rfl (by omega)) ?_
                          dsimp only [put, List.take, List.drop, List.set, ev, nth, List.nil_append, List.cons_append, md, Nat.reducePow, Nat.reduceAdd, Nat.reduceMul]
                          refine WL_det rfl (det_move) ?_
                          dsimp only [put, List.take, List.drop, List.set, ev, nth, List.nil_append, List.cons_append, md, Nat.reducePow, Nat.reduceAdd, Nat.reduceMul]
                          refine WL_nil ?_
                          refine ⟨q + 1, ?_, ?_, ?_, ?_⟩
                          · rfl
                          · rfl
                          · omega
                          · omega
                        · have hC := Classical.not_not.1 hC
                          refine WC_draw [[], [0], [], [2], [2, 3], [0, 1, 2, 3, 4], [0, 1, 2, 3, 4, 5], [0, 1, 2, 3, 4, 5, 6], [0, 1, 2, 3, 4, 5, 6, 7], [0, 1, 2, 3, 4, 5, 6], [0, 1, 2, 3, 4, 5, 6, 7, 8, 9], [0, 1, 2, 3, 4, 5, 6, 7, 8, 9, 10], [0, 1, 2, 3, 4, 5, 6, 7, 8, 9, 10, 11], [0, 1, 2, 3, 4, 5, 6, 7, 8, 9, 10, 11, 12], [0, 1, 2, 3, 4, 5, 6, 7, 8, 9, 10, 11, 12, 13], [0, 1, 2, 3, 4, 5, 6, 7, 8, 9, 10, 11, 12, 13, 14], [0, 1, 2, 3, 4, 5, 6, 7, 8, 9, 10, 11, 12, 13, 14, 15]] [] 138 [] (List.nil_sublist _) mixed rfl (by decide) ?_
                          refine RW.pure rfl rfl (fun _ => rfl) (fun V hV => det_idxA (j := 0) Try.underlying59 Try.sizeOf3 rfl rfl (rfl) (by omega)) (fun _ _ _ => rfl) ?_
                          dsimp only [put, List.set, ev, nth, List.nil_append, List.cons_append, md, Nat.reducePow, Nat.reduceAdd, Nat.reduceMul]
                          refine RW.det [] rfl rfl rfl rfl (fun _ => rfl) (fun V hV => Det.rel (det_load 1 Try.isAgg3 rfl rfl rfl)) (fun _ _ _ => rfl) ?_
                          dsimp only [put, List.set, ev, nth, List.nil_append, List.cons_append, md, Nat.reducePow, Nat.reduceAdd, Nat.reduceMul]
                          refine RW.pure rfl rfl (fun _ => rfl) (fun V hV => det_move) (fun _ _ _ => rfl) ?_
                          dsimp only [put, List.set, ev, nth, List.nil_append, List.cons_append, md, Nat.reducePow, Nat.reduceAdd, Nat.reduceMul]
                          refine RW.det [] rfl rfl rfl rfl (fun _ => rfl) (fun V hV => Det.rel (det_idxR (j := 0) Try.underlying43 Try.sizeOf3 rfl rfl (rfl) (by rw [iv_len]; omega) (fun w hw => RowO.rd hw 0 rfl h1))) (fun _ _ _ => rfl) ?_
                          dsimp only [put, List.set, ev, nth, List.nil_append, List.cons_append, md, Nat.reducePow, Nat.reduceAdd, Nat.reduceMul]
                          refine RW.det [] rfl rfl rfl rfl (fun _ => rfl) (fun V hV => Det.rel (det_loadR Try.isAgg3 rfl (fun w hw => RowO.rd hw 0 rfl h1) (iv_at p (by omega)))) (fun _ _ _ => rfl) ?_
                          dsimp only [put, List.set, ev, nth, List.nil_append, List.cons_append, md, Nat.reducePow, Nat.reduceAdd, Nat.reduceMul]
                          refine RW.pure rfl rfl (fun _ => rfl) (fun V hV => Det.bv true (det_eqlz rfl rfl) (decide_eq_true hC)) (fun _ _ _ => rfl) ?_
                          dsimp only [put, List.set, ev, nth, List.nil_append, List.cons_append, md, Nat.reducePow, Nat.reduceAdd, Nat.reduceMul]
                          refine RW.pure rfl rfl (fun _ => rfl) (fun V hV => det_move) (fun _ _ _ => rfl) ?_
                          dsimp only [put, List.set, ev, nth, List.nil_append, List.cons_append, md, Nat.reducePow, Nat.reduceAdd, Nat.reduceMul]
                          refine RW.pure rfl rfl (fun _ => rfl) (fun V hV => det_idxA (j := 1) Try.underlying59 Try.sizeOf3 rfl rfl (rfl) (by omega)) (fun _ _ _ => rfl) ?_
                          dsimp only [put, List.set, ev, nth, List.nil_append, List.cons_append, md, Nat.reducePow, Nat.reduceAdd, Nat.reduceMul]
                          refine RW.det [] rfl rfl rfl rfl (fun _ => rfl) (fun V hV => Det.rel (det_load 1 Try.isAgg3 rfl rfl rfl)) (fun _ _ _ => rfl) ?_
                          dsimp only [put, List.set, ev, nth, List.nil_append, List.cons_append, md, Nat.reducePow, Nat.reduceAdd, Nat.reduceMul]
                          refine RW.pure rfl rfl (fun _ => rfl) (fun V hV => det_move) (fun _ _ _ => rfl) ?_
                          dsimp only [put, List.set, ev, nth, List.nil_append, List.cons_append, md, Nat.reducePow, Nat.reduceAdd, Nat.reduceMul]
                          refine RW.pure rfl rfl (fun _ => rfl) (fun V hV => Det.bv false (det_eqlz rfl rfl) (decide_eq_false hD)) (fun _ _ _ => rfl) ?_
                          dsimp only [put, List.set, ev, nth, List.nil_append, List.cons_append, md, Nat.reducePow, Nat.reduceAdd, Nat.reduceMul]
                          refine RW.pure rfl rfl (fun _ => rfl) (fun V hV => det_pick_true rfl) (fun _ _ _ => rfl) ?_
                          dsimp only [put, List.set, ev, nth, List.nil_append, List.cons_append, md, Nat.reducePow, Nat.reduceAdd, Nat.reduceMul]
                          refine RW.pure rfl rfl (fun _ => rfl) (fun V hV => det_move) (fun _ _ _ => rfl) ?_
                          dsimp only [put, List.set, ev, nth, List.nil_append, List.cons_append, md, Nat.reducePow, Nat.reduceAdd, Nat.reduceMul]
                          refine RW.skip rfl rfl (fun _ => rfl) ?_
                          dsimp only [put, List.set, ev, nth, List.nil_append, List.cons_append, md, Nat.reducePow, Nat.reduceAdd, Nat.reduceMul]
                          refine RW.skip rfl rfl (fun _ => rfl) ?_
                          dsimp only [put, List.set, ev, nth, List.nil_append, List.cons_append, md, Nat.reducePow, Nat.reduceAdd, Nat.reduceMul]
                          refine RW.skip rfl rfl (fun _ => rfl) ?_
                          dsimp only [put, List.set, ev, nth, List.nil_append, List.cons_append, md, Nat.reducePow, Nat.reduceAdd, Nat.reduceMul]
                          refine RW.pure rfl rfl (fun _ => rfl) (fun V hV => det_pick_false rfl) (fun _ _ _ => rfl) ?_
                          dsimp only [put, List.set, ev, nth, List.nil_append, List.cons_append, md, Nat.reducePow, Nat.reduceAdd, Nat.reduceMul]
                          refine RW.done (fun V => _ ++ flat [] V) rfl rfl (fun _ => rfl) (fun V hV => ?_)
                          try simp only [flat_nil, List.append_nil]
                          try dsimp only [put, blk, flat_nil, List.append_nil, List.append, List.eraseIdx, List.set, ev, nth, List.nil_append, List.cons_append, md, Nat.reducePow, Nat.reduceAdd, Nat.reduceMul]
                          refine WC.forget (.cons_cons _ (.cons _ (List.Sublist.refl _))) ?_
                          refine WC_cond_false rfl ?_
                          refine WC_skip ?_
                          refine WC_region ?_
                          refine WL_det rfl (det_addi (q := 1) rfl rfl (by omega)) ?_
                          dsimp only [put, List.take, List.drop, List.set, ev, nth, List.nil_append, List.cons_append, md, Nat.reducePow, Nat.reduceAdd, Nat.reduceMul]
                          refine WL_det rfl (det_move) ?_
                          dsimp only [put, List.take, List.drop, List.set, ev, nth, List.nil_append, List.cons_append, md, Nat.reducePow, Nat.reduceAdd, Nat.reduceMul]
                          refine WL_nil ?_
                          refine ⟨q + 1, ?_, ?_, ?_, ?_⟩
                          · rfl
                          · rfl
                          · omega
                          · omega
                    · rw [decide_eq_false hA]
                      refine WC_draw [[], [0], [0, 1], [0, 1, 2], [0, 1], [0, 1], [0, 1, 5], [0, 1, 4, 5, 6], [0, 1, 4, 5, 6, 7], [0, 1, 2, 3, 4, 5, 6, 7, 8], [0, 1, 2, 3, 4, 5, 6, 7, 8, 9], [0, 1, 2, 3, 4, 5, 6, 7, 8, 9, 10], [0, 1, 2, 3, 4, 5, 6, 7, 8, 9, 10, 11], [0, 1, 2, 3, 4, 5, 6, 7, 8, 9, 10], [0, 1, 2, 3, 4, 5, 6, 7, 8, 9, 10], [0, 1, 2, 3, 4, 5, 6, 7, 8, 9, 10, 13, 14], [0, 1, 2, 3, 4, 5, 6, 7, 8, 9, 10, 13, 14, 15], [0, 1, 2, 3, 4, 5, 6, 7, 8, 9, 10, 11, 12, 13, 14, 15, 16], [0, 1, 2, 3, 4, 5, 6, 7, 8, 9, 10, 11, 12, 13, 14, 15, 16, 17], [0, 1, 2, 3, 4, 5, 6, 7, 8, 9, 10, 11, 12, 13, 14, 15, 16, 17, 18], [0, 1, 2, 3, 4, 5, 6, 7, 8, 9, 10, 11, 12, 13, 14, 15, 16, 17, 18, 19]] [] 138 [] (List.nil_sublist _) mixed rfl (by decide) ?_
                      refine RW.pure rfl rfl (fun _ => rfl) (fun V hV => det_move) (fun _ _ _ => rfl) ?_
                      dsimp only [put, List.set, ev, nth, List.nil_append, List.cons_append, md, Nat.reducePow, Nat.reduceAdd, Nat.reduceMul]
                      refine RW.pure rfl rfl (fun _ => rfl) (fun V hV => det_move) (fun _ _ _ => rfl) ?_
                      dsimp only [put, List.set, ev, nth, List.nil_append, List.cons_append, md, Nat.reducePow, Nat.reduceAdd, Nat.reduceMul]
                      refine RW.pure rfl rfl (fun _ => rfl) (fun V hV => det_idxA (j := 0) Try.underlying59 Try.sizeOf3 rfl rfl (rfl) (by omega)) (fun _ _ _ => rfl) ?_
                      dsimp only [put, List.set, ev, nth, List.nil_append, List.cons_append, md, Nat.reducePow, Nat.reduceAdd, Nat.reduceMul]
                      refine RW.det [] rfl rfl rfl rfl (fun _ => rfl) (fun V hV => Det.rel (det_load 1 Try.isAgg3 rfl rfl rfl)) (fun _ _ _ => rfl) ?_
                      dsimp only [put, List.set, ev, nth, List.nil_append, List.cons_append, md, Nat.reducePow, Nat.reduceAdd, Nat.reduceMul]
                      refine RW.pure rfl rfl (fun _ => rfl) (fun V hV => det_move) (fun _ _ _ => rfl) ?_
                      dsimp only [put, List.set, ev, nth, List.nil_append, List.cons_append, md, Nat.reducePow, Nat.reduceAdd, Nat.reduceMul]
                      refine RW.pure rfl rfl (fun _ => rfl) (fun V hV => det_move) (fun _ _ _ => rfl) ?_
                      dsimp only [put, List.set, ev, nth, List.nil_append, List.cons_append, md, Nat.reducePow, Nat.reduceAdd, Nat.reduceMul]
                      refine RW.pure rfl rfl (fun _ => rfl) (fun V hV => det_subi (q := 1) rfl rfl (by omega) (by omega)) (fun _ _ _ => rfl) ?_
                      dsimp only [put, List.set, ev, nth, List.nil_append, List.cons_append, md, Nat.reducePow, Nat.reduceAdd, Nat.reduceMul]
                      refine RW.det [] rfl rfl rfl rfl (fun _ => rfl) (fun V hV => Det.rel (det_idxR Try.underlying43 Try.sizeOf3 rfl rfl (rfl) (by rw [iv_len]; omega) (fun w hw => RowO.rd hw 0 rfl h1))) (fun _ _ _ => rfl) ?_
                      dsimp only [put, List.set, ev, nth, List.nil_append, List.cons_append, md, Nat.reducePow, Nat.reduceAdd, Nat.reduceMul]
                      refine RW.det [] rfl rfl rfl rfl (fun _ => rfl) (fun V hV => Det.rel (det_loadR Try.isAgg3 rfl (fun w hw => RowO.rd hw 0 rfl h1) (iv_at p (by omega)))) (fun _ _ _ => rfl) ?_
                      dsimp only [put, List.set, ev, nth, List.nil_append, List.cons_append, md, Nat.reducePow, Nat.reduceAdd, Nat.reduceMul]
                      refine RW.pure rfl rfl (fun _ => rfl) (fun V hV => Det.bv false (det_eqlz rfl rfl) (decide_eq_false hB)) (fun _ _ _ => rfl) ?_
                      dsimp only [put, List.set, ev, nth, List.nil_append, List.cons_append, md, Nat.reducePow, Nat.reduceAdd, Nat.reduceMul]
                      refine RW.pure rfl rfl (fun _ => rfl) (fun V hV => det_move) (fun _ _ _ => rfl) ?_
                      dsimp only [put, List.set, ev, nth, List.nil_append, List.cons_append, md, Nat.reducePow, Nat.reduceAdd, Nat.reduceMul]
                      refine RW.skip rfl rfl (fun _ => rfl) ?_
                      dsimp only [put, List.set, ev, nth, List.nil_append, List.cons_append, md, Nat.reducePow, Nat.reduceAdd, Nat.reduceMul]
                      refine RW.skip rfl rfl (fun _ => rfl) ?_
                      dsimp only [put, List.set, ev, nth, List.nil_append, List.cons_append, md, Nat.reducePow, Nat.reduceAdd, Nat.reduceMul]
                      refine RW.skip rfl rfl (fun _ => rfl) ?_
                      dsimp only [put, List.set, ev, nth, List.nil_append, List.cons_append, md, Nat.reducePow, Nat.reduceAdd, Nat.reduceMul]
                      refine RW.skip rfl rfl (fun _ => rfl) ?_
                      dsimp only [put, List.set, ev, nth, List.nil_append, List.cons_append, md, Nat.reducePow, Nat.reduceAdd, Nat.reduceMul]
                      refine RW.skip rfl rfl (fun _ => rfl) ?_
                      dsimp only [put, List.set, ev, nth, List.nil_append, List.cons_append, md, Nat.reducePow, Nat.reduceAdd, Nat.reduceMul]
                      refine RW.skip rfl rfl (fun _ => rfl) ?_
                      dsimp only [put, List.set, ev, nth, List.nil_append, List.cons_append, md, Nat.reducePow, Nat.reduceAdd, Nat.reduceMul]
                      refine RW.skip rfl rfl (fun _ => rfl) ?_
                      dsimp only [put, List.set, ev, nth, List.nil_append, List.cons_append, md, Nat.reducePow, Nat.reduceAdd, Nat.reduceMul]
                      refine RW.pure rfl rfl (fun _ => rfl) (fun V hV => det_pick_false rfl) (fun _ _ _ => rfl) ?_
                      dsimp only [put, List.set, ev, nth, List.nil_append, List.cons_append, md, Nat.reducePow, Nat.reduceAdd, Nat.reduceMul]
                      refine RW.pure rfl rfl (fun _ => rfl) (fun V hV => Det.bv (decide ((p.getD (i - 1) 0, p.getD i 0) ∈ L.take (q + 1))) (det_pick_false rfl) ((decide_eq_false fun h => by rcases (take_mem (by omega) _).1 h with h | h; exact hA h; exact hB h.1).symm)) (fun _ _ _ => rfl) ?_
                      dsimp only [put, List.set, ev, nth, List.nil_append, List.cons_append, md, Nat.reducePow, Nat.reduceAdd, Nat.reduceMul]
                      refine RW.pure rfl rfl (fun _ => rfl) (fun V hV => det_assign) (fun _ _ _ => rfl) ?_
                      dsimp only [put, List.set, ev, nth, List.nil_append, List.cons_append, md, Nat.reducePow, Nat.reduceAdd, Nat.reduceMul]
                      refine RW.done (fun V => _ ++ flat [] V) rfl rfl (fun _ => rfl) (fun V hV => ?_)
                      try simp only [flat_nil, List.append_nil]
                      try dsimp only [put, blk, flat_nil, List.append_nil, List.append, List.eraseIdx, List.set, ev, nth, List.nil_append, List.cons_append, md, Nat.reducePow, Nat.reduceAdd, Nat.reduceMul]
                      refine WC_seq ?_
                      by_cases hC : (L.getD q (0, 0)).1 ≠ p.getD 0 0
                      · refine WC_draw [[], [0], [], [2], [2, 3], [0, 1, 2, 3, 4], [0, 1, 2, 3, 4, 5], [0, 1, 2, 3, 4, 5, 6], [0, 1, 2, 3, 4, 5, 6, 7], [0, 1, 2, 3, 4, 5, 6], [0, 1, 2, 3, 4, 5, 6, 7, 8, 9], [0, 1, 2, 3, 4, 5, 6, 7, 8, 9, 10], [0, 1, 2, 3, 4, 5, 6, 7, 8, 9, 10, 11], [0, 1, 2, 3, 4, 5, 6, 7, 8, 9, 10, 11, 12], [0, 1, 2, 3, 4, 5, 6, 7, 8, 9, 10, 11, 12, 13], [0, 1, 2, 3, 4, 5, 6, 7, 8, 9, 10, 11, 12, 13, 14], [0, 1, 2, 3, 4, 5, 6, 7, 8, 9, 10, 11, 12, 13, 14, 15]] [] 138 [] (List.nil_sublist _) mixed rfl (by decide) ?_
                        refine RW.pure rfl rfl (fun _ => rfl) (fun V hV => det_idxA (j := 0) Try.underlying59 Try.sizeOf3 rfl rfl (rfl) (by omega)) (fun _ _ _ => rfl) ?_
                        dsimp only [put, List.set, ev, nth, List.nil_append, List.cons_append, md, Nat.reducePow, Nat.reduceAdd, Nat.reduceMul]
                        refine RW.det [] rfl rfl rfl rfl (fun _ => rfl) (fun V hV => Det.rel (det_load 1 Try.isAgg3 rfl rfl rfl)) (fun _ _ _ => rfl) ?_
                        dsimp only [put, List.set, ev, nth, List.nil_append, List.cons_append, md, Nat.reducePow, Nat.reduceAdd, Nat.reduceMul]
                        refine RW.pure rfl rfl (fun _ => rfl) (fun V hV => det_move) (fun _ _ _ => rfl) ?_
                        dsimp only [put, List.set, ev, nth, List.nil_append, List.cons_append, md, Nat.reducePow, Nat.reduceAdd, Nat.reduceMul]
                        refine RW.det [] rfl rfl rfl rfl (fun _ => rfl) (fun V hV => Det.rel (det_idxR (j := 0) Try.underlying43 Try.sizeOf3 rfl rfl (rfl) (by rw [iv_len]; omega) (fun w hw => RowO.rd hw 0 rfl h1))) (fun _ _ _ => rfl) ?_
                        dsimp only [put, List.set, ev, nth, List.nil_append, List.cons_append, md, Nat.reducePow, Nat.reduceAdd, Nat.reduceMul]
                        refine RW.det [] rfl rfl rfl rfl (fun _ => rfl) (fun V hV => Det.rel (det_loadR Try.isAgg3 rfl (fun w hw => RowO.rd hw 0 rfl h1) (iv_at p (by omega)))) (fun _ _ _ => rfl) ?_
                        dsimp only [put, List.set, ev, nth, List.nil_append, List.cons_append, md, Nat.reducePow, Nat.reduceAdd, Nat.reduceMul]
                        refine RW.pure rfl rfl (fun _ => rfl) (fun V hV => Det.bv false (det_eqlz rfl rfl) (decide_eq_false hC)) (fun _ _ _ => rfl) ?_
                        dsimp only [put, List.set, ev, nth, List.nil_append, List.cons_append, md, Nat.reducePow, Nat.reduceAdd, Nat.reduceMul]
                        refine RW.pure rfl rfl (fun _ => rfl) (fun V hV => det_move) (fun _ _ _ => rfl) ?_
                        dsimp only [put, List.set, ev, nth, List.nil_append, List.cons_append, md, Nat.reducePow, Nat.reduceAdd, Nat.reduceMul]
                        refine RW.skip rfl rfl (fun _ => rfl) ?_
                        dsimp only [put, List.set, ev, nth, List.nil_append, List.cons_append, md, Nat.reducePow, Nat.reduceAdd, Nat.reduceMul]
                        refine RW.skip rfl rfl (fun _ => rfl) ?_
                        dsimp only [put, List.set, ev, nth, List.nil_append, List.cons_append, md, Nat.reducePow, Nat.reduceAdd, Nat.reduceMul]
                        refine RW.skip rfl rfl (fun _ => rfl) ?_
                        dsimp only [put, List.set, ev, nth, List.nil_append, List.cons_append, md, Nat.reducePow, Nat.reduceAdd, Nat.reduceMul]
                        refine RW.skip rfl rfl (fun _ => rfl) ?_
                        dsimp only [put, List.set, ev, nth, List.nil_append, List.cons_append, md, Nat.reducePow, Nat.reduceAdd, Nat.reduceMul]
                        refine RW.pure rfl rfl (fun _ => rfl) (fun V hV => det_pick_false rfl) (fun _ _ _ => rfl) ?_
                        dsimp only [put, List.set, ev, nth, List.nil_append, List.cons_append, md, Nat.reducePow, Nat.reduceAdd, Nat.reduceMul]
                        refine RW.pure rfl rfl (fun _ => rfl) (fun V hV => det_move) (fun _ _ _ => rfl) ?_
                        dsimp only [put, List.set, ev, nth, List.nil_append, List.cons_append, md, Nat.reducePow, Nat.reduceAdd, Nat.reduceMul]
                        refine RW.skip rfl rfl (fun _ => rfl) ?_
                        dsimp only [put, List.set, ev, nth, List.nil_append, List.cons_append, md, Nat.reducePow, Nat.reduceAdd, Nat.reduceMul]
                        refine RW.skip rfl rfl (fun _ => rfl) ?_
                        dsimp only [put, List.set, ev, nth, List.nil_append, List.cons_append, md, Nat.reducePow, Nat.reduceAdd, Nat.reduceMul]
                        refine RW.skip rfl rfl (fun _ => rfl) ?_
                        dsimp only [put, List.set, ev, nth, List.nil_append, List.cons_append, md, Nat.reducePow, Nat.reduceAdd, Nat.reduceMul]
                        refine RW.pure rfl rfl (fun _ => rfl) (fun V hV => det_pick_false rfl) (fun _ _ _ => rfl) ?_
                        dsimp only [put, List.set, ev, nth, List.nil_append, List.cons_append, md, Nat.reducePow, Nat.reduceAdd, Nat.reduceMul]
                        refine RW.done (fun V => _ ++ flat [] V) rfl rfl (fun _ => rfl) (fun V hV => ?_)
                        try simp only [flat_nil, List.append_nil]
                        try dsimp only [put, blk, flat_nil, List.append_nil, List.append, List.eraseIdx, List.set, ev, nth, List.nil_append, List.cons_append, md, Nat.reducePow, Nat.reduceAdd, Nat.reduceMul]
                        refine WC.forget (.cons_cons _ (.cons _ (List.Sublist.refl _))) ?_
                        refine WC_cond_false rfl ?_
                        refine WC_skip ?_
                        refine WC_region ?_
                        refine WL_det rfl (det_addi (q := 1) rfl rfl (by omega)) ?_
                        dsimp only [put, List.take, List.drop, List.set, ev, nth, List.nil_append, List.cons_append, md, Nat.reducePow, Nat.reduceAdd, Nat.reduceMul]
                        refine WL_det rfl (det_move) ?_
                        dsimp only [put, List.take, List.drop, List.set, ev, nth, List.nil_append, List.cons_append, md, Nat.reducePow, Nat.reduceAdd, Nat.reduceMul]
                        refine WL_nil ?_
                        refine ⟨q + 1, ?_, ?_, ?_, ?_⟩
                        · rfl
                        · rfl
                        · omega
                        · omega
                      · by_cases hD : (L.getD q (0, 0)).2 = to
                        · have hC := Classical.not_not.1 hC
                          refine WC_draw [[], [0], [], [2], [2, 3], [0, 1, 2, 3, 4], [0, 1, 2, 3, 4, 5], [0, 1, 2, 3, 4, 5, 6], [0, 1, 2, 3, 4, 5, 6, 7], [0, 1, 2, 3, 4, 5, 6], [0, 1, 2, 3, 4, 5, 6, 7, 8, 9], [0, 1, 2, 3, 4, 5, 6, 7, 8, 9, 10], [0, 1, 2, 3, 4, 5, 6, 7, 8, 9, 10, 11], [0, 1, 2, 3, 4, 5, 6, 7, 8, 9, 10, 11, 12], [0, 1, 2, 3, 4, 5, 6, 7, 8, 9, 10, 11, 12, 13], [0, 1, 2, 3, 4, 5, 6, 7, 8, 9, 10, 11, 12, 13, 14], [0, 1, 2, 3, 4, 5, 6, 7, 8, 9, 10, 11, 12, 13, 14, 15]] [] 138 [] (List.nil_sublist _) mixed rfl (by decide) ?_
                          refine RW.pure rfl rfl (fun _ => rfl) (fun V hV => det_idxA (j := 0) Try.underlying59 Try.sizeOf3 rfl rfl (rfl) (by omega)) (fun _ _ _ => rfl) ?_
                          dsimp only [put, List.set, ev, nth, List.nil_append, List.cons_append, md, Nat.reducePow, Nat.reduceAdd, Nat.reduceMul]
                          refine RW.det [] rfl rfl rfl rfl (fun _ => rfl) (fun V hV => Det.rel (det_load 1 Try.isAgg3 rfl rfl rfl)) (fun _ _ _ => rfl) ?_
                          dsimp only [put, List.set, ev, nth, List.nil_append, List.cons_append, md, Nat.reducePow, Nat.reduceAdd, Nat.reduceMul]
                          refine RW.pure rfl rfl (fun _ => rfl) (fun V hV => det_move) (fun _ _ _ => rfl) ?_
                          dsimp only [put, List.set, ev, nth, List.nil_append, List.cons_append, md, Nat.reducePow, Nat.reduceAdd, Nat.reduceMul]
                          refine RW.det [] rfl rfl rfl rfl (fun _ => rfl) (fun V hV => Det.rel (det_idxR (j := 0) Try.underlying43 Try.sizeOf3 rfl rfl (rfl) (by rw [iv_len]; omega) (fun w hw => RowO.rd hw 0 rfl h1))) (fun _ _ _ => rfl) ?_
                          dsimp only [put, List.set, ev, nth, List.nil_append, List.cons_append, md, Nat.reducePow, Nat.reduceAdd, Nat.reduceMul]
                          refine RW.det [] rfl rfl rfl rfl (fun _ => rfl) (fun V hV => Det.rel (det_loadR Try.isAgg3 rfl (fun w hw => RowO.rd hw 0 rfl h1) (iv_at p (by omega)))) (fun _ _ _ => rfl) ?_
                          dsimp only [put, List.set, ev, nth, List.nil_append, List.cons_append, md, Nat.reducePow, Nat.reduceAdd, Nat.reduceMul]
                          refine RW.pure rfl rfl (fun _ => rfl) (fun V hV => Det.bv true (det_eqlz rfl rfl) (decide_eq_true hC)) (fun _ _ _ => rfl) ?_
                          dsimp only [put, List.set, ev, nth, List.nil_append, List.cons_append, md, Nat.reducePow, Nat.reduceAdd, Nat.reduceMul]
                          refine RW.pure rfl rfl (fun _ => rfl) (fun V hV => det_move) (fun _ _ _ => rfl) ?_
                          dsimp only [put, List.set, ev, nth, List.nil_append, List.cons_append, md, Nat.reducePow, Nat.reduceAdd, Nat.reduceMul]
                          refine RW.pure rfl rfl (fun _ => rfl) (fun V hV => det_idxA (j := 1) Try.underlying59 Try.sizeOf3 rfl rfl (rfl) (by omega)) (fun _ _ _ => rfl) ?_
                          dsimp only [put, List.set, ev, nth, List.nil_append, List.cons_append, md, Nat.reducePow, Nat.reduceAdd, Nat.reduceMul]
                          refine RW.det [] rfl rfl rfl rfl (fun _ => rfl) (fun V hV => Det.rel (det_load 1 Try.isAgg3 rfl rfl rfl)) (fun _ _ _ => rfl) ?_
                          dsimp only [put, List.set, ev, nth, List.nil_append, List.cons_append, md, Nat.reducePow, Nat.reduceAdd, Nat.reduceMul]
                          refine RW.pure rfl rfl (fun _ => rfl) (fun V hV => det_move) (fun _ _ _ => rfl) ?_
                          dsimp only [put, List.set, ev, nth, List.nil_append, List.cons_append, md, Nat.reducePow, Nat.reduceAdd, Nat.reduceMul]
                          refine RW.pure rfl rfl (fun _ => rfl) (fun V hV => Det.bv true (det_eqlz rfl rfl) (decide_eq_true hD)) (fun _ _ _ => rfl) ?_
                          dsimp only [put, List.set, ev, nth, List.nil_append, List.cons_append, md, Nat.reducePow, Nat.reduceAdd, Nat.reduceMul]
                          refine RW.pure rfl rfl (fun _ => rfl) (fun V hV => det_pick_true rfl) (fun _ _ _ => rfl) ?_
                          dsimp only [put, List.set, ev, nth, List.nil_append, List.cons_append, md, Nat.reducePow, Nat.reduceAdd, Nat.reduceMul]
                          refine RW.pure rfl rfl (fun _ => rfl) (fun V hV => det_move) (fun _ _ _ => rfl) ?_
                          dsimp only [put, List.set, ev, nth, List.nil_append, List.cons_append, md, Nat.reducePow, Nat.reduceAdd, Nat.reduceMul]
                          refine RW.pure rfl rfl (fun _ => rfl) (fun V hV => det_move) (fun _ _ _ => rfl) ?_
                          dsimp only [put, List.set, ev, nth, List.nil_append, List.cons_append, md, Nat.reducePow, Nat.reduceAdd, Nat.reduceMul]
                          refine RW.det [] rfl rfl rfl rfl (fun _ => rfl) (fun V hV => Det.rel (det_lenR Try.underlying43 rfl (fun w hw => RowO.rd hw 0 rfl h1) (iv_len p))) (fun _ _ _ => rfl) ?_
                          dsimp only [put, List.set, ev, nth, List.nil_append, List.cons_append, md, Nat.reducePow, Nat.reduceAdd, Nat.reduceMul]
                          refine RW.pure rfl rfl (fun _ => rfl) (fun V hV => Det.bv false (det_gtr (q := 2) rfl rfl) (decide_eq_false fun h => hok.short (by omega) (by have := getD_mem2 (L := L) (q := q) (by omega); rwa [hC, hD] at this))) (fun _ _ _ => rfl) ?_
                          dsimp only [put, List.set, ev, nth, List.nil_append, List.cons_append, md, Nat.reducePow, Nat.reduceAdd, Nat.reduceMul]
                          refine RW.pure rfl rfl (fun _ => rfl) (fun V hV => det_pick_true rfl) (fun _ _ _ => rfl) ?_
                          dsimp only [put, List.set, ev, nth, List.nil_append, List.cons_append, md, Nat.reducePow, Nat.reduceAdd, Nat.reduceMul]
                          refine RW.done (fun V => _ ++ flat [] V) rfl rfl (fun _ => rfl) (fun V hV => ?_)
                          try simp only [flat_nil, List.append_nil]
                          try dsimp only [put, blk, flat_nil, List.append_nil, List.append, List.eraseIdx, List.set, ev, nth, List.nil_append, List.cons_append, md, Nat.reducePow, Nat.reduceAdd, Nat.reduceMul]
                          refine WC.forget (.cons_cons _ (.cons _ (List.Sublist.refl _))) ?_
                          refine WC_cond_false rfl ?_
                          refine WC_skip ?_
                          refine WC_region ?_
                          refine WL_det rfl (det_addi (q := 1) rfl rfl (by omega)) ?_
                          dsimp only [put, List.take, List.drop, List.set, ev, nth, List.nil_append, List.cons_append, md, Nat.reducePow, Nat.reduceAdd, Nat.reduceMul]
                          refine WL_det rfl (det_move) ?_
                          dsimp only [put, List.take, List.drop, List.set, ev, nth, List.nil_append, List.cons_append, md, Nat.reducePow, Nat.reduceAdd, Nat.reduceMul]
                          refine WL_nil ?_
                          refine ⟨q + 1, ?_, ?_, ?_, ?_⟩
                          · rfl
                          · rfl
                          · omega
                          · omega
                        · have hC := Classical.not_not.1 hC
                          refine WC_draw [[], [0], [], [2], [2, 3], [0, 1, 2, 3, 4], [0, 1, 2, 3, 4, 5], [0, 1, 2, 3, 4, 5, 6], [0, 1, 2, 3, 4, 5, 6, 7], [0, 1, 2, 3, 4, 5, 6], [0, 1, 2, 3, 4, 5, 6, 7, 8, 9], [0, 1, 2, 3, 4, 5, 6, 7, 8, 9, 10], [0, 1, 2, 3, 4, 5, 6, 7, 8, 9, 10, 11], [0, 1, 2, 3, 4, 5, 6, 7, 8, 9, 10, 11, 12], [0, 1, 2, 3, 4, 5, 6, 7, 8, 9, 10, 11, 12, 13], [0, 1, 2, 3, 4, 5, 6, 7, 8, 9, 10, 11, 12, 13, 14], [0, 1, 2, 3, 4, 5, 6, 7, 8, 9, 10, 11, 12, 13, 14, 15]] [] 138 [] (List.nil_sublist _) mixed rfl (by decide) ?_
                          refine RW.pure rfl rfl (fun _ => rfl) (fun V hV => det_idxA (j := 0) Try.underlying59 Try.sizeOf3 rfl rfl (rfl) (by omega)) (fun _ _ _ => rfl) ?_
                          dsimp only [put, List.set, ev, nth, List.nil_append, List.cons_append, md, Nat.reducePow, Nat.reduceAdd, Nat.reduceMul]
                          refine RW.det [] rfl rfl rfl rfl (fun _ => rfl) (fun V hV => Det.rel (det_load 1 Try.isAgg3 rfl rfl rfl)) (fun _ _ _ => rfl) ?_
                          dsimp only [put, List.set, ev, nth, List.nil_append, List.cons_append, md, Nat.reducePow, Nat.reduceAdd, Nat.reduceMul]
                          refine RW.pure rfl rfl (fun _ => rfl) (fun V hV => det_move) (fun _ _ _ => rfl) ?_
                          dsimp only [put, List.set, ev, nth, List.nil_append, List.cons_append, md, Nat.reducePow, Nat.reduceAdd, Nat.reduceMul]
                          refine RW.det [] rfl rfl rfl rfl (fun _ => rfl) (fun V hV => Det.rel (det_idxR (j := 0) Try.underlying43 Try.sizeOf3 rfl rfl (rfl) (by rw [iv_len]; omega) (fun w hw => RowO.rd hw 0 rfl h1))) (fun _ _ _ => rfl) ?_
                          dsimp only [put, List.set, ev, nth, List.nil_append, List.cons_append, md, Nat.reducePow, Nat.reduceAdd, Nat.reduceMul]
                          refine RW.det [] rfl rfl rfl rfl (fun _ => rfl) (fun V hV => Det.rel (det_loadR Try.isAgg3 rfl (fun w hw => RowO.rd hw 0 rfl h1) (iv_at p (by omega)))) (fun _ _ _ => rfl) ?_
                          dsimp only [put, List.set, ev, nth, List.nil_append, List.cons_append, md, Nat.reducePow, Nat.reduceAdd, Nat.reduceMul]
                          refine RW.pure rfl rfl (fun _ => rfl) (fun V hV => Det.bv true (det_eqlz rfl rfl) (decide_eq_true hC)) (fun _ _ _ => rfl) ?_
                          dsimp only [put, List.set, ev, nth, List.nil_append, List.cons_append, md, Nat.reducePow, Nat.reduceAdd, Nat.reduceMul]
                          refine RW.pure rfl rfl (fun _ => rfl) (fun V hV => det_move) (fun _ _ _ => rfl) ?_
                          dsimp only [put, List.set, ev, nth, List.nil_append, List.cons_append, md, Nat.reducePow, Nat.reduceAdd, Nat.reduceMul]
                          refine RW.pure rfl rfl (fun _ => rfl) (fun V hV => det_idxA (j := 1) Try.underlying59 Try.sizeOf3 rfl rfl (rfl) (by omega)) (fun _ _ _ => rfl) ?_
                          dsimp only [put, List.set, ev, nth, List.nil_append, List.cons_append, md, Nat.reducePow, Nat.reduceAdd, Nat.reduceMul]
                          refine RW.det [] rfl rfl rfl rfl (fun _ => rfl) (fun V hV => Det.rel (det_load 1 Try.isAgg3 rfl rfl rfl)) (fun _ _ _ => rfl) ?_
                          dsimp only [put, List.set, ev, nth, List.nil_append, List.cons_append, md, Nat.reducePow, Nat.reduceAdd, Nat.reduceMul]
                          refine RW.pure rfl rfl (fun _ => rfl) (fun V hV => det_move) (fun _ _ _ => rfl) ?_
                          dsimp only [put, List.set, ev, nth, List.nil_append, List.cons_append, md, Nat.reducePow, Nat.reduceAdd, Nat.reduceMul]
                          refine RW.pure rfl rfl (fun _ => rfl) (fun V hV => Det.bv false (det_eqlz rfl rfl) (decide_eq_false hD)) (fun _ _ _ => rfl) ?_
                          dsimp only [put, List.set, ev, nth, List.nil_append, List.cons_append, md, Nat.reducePow, Nat.reduceAdd, Nat.reduceMul]
                          refine RW.pure rfl rfl (fun _ => rfl) (fun V hV => det_pick_true rfl) (fun _ _ _ => rfl) ?_
                          dsimp only [put, List.set, ev, nth, List.nil_append, List.cons_append, md, Nat.reducePow, Nat.reduceAdd, Nat.reduceMul]
                          refine RW.pure rfl rfl (fun _ => rfl) (fun V hV => det_move) (fun _ _ _ => rfl) ?_
                          dsimp only [put, List.set, ev, nth, List.nil_append, List.cons_append, md, Nat.reducePow, Nat.reduceAdd, Nat.reduceMul]
                          refine RW.skip rfl rfl (fun _ => rfl) ?_
                          dsimp only [put, List.set, ev, nth, List.nil_append, List.cons_append, md, Nat.reducePow, Nat.reduceAdd, Nat.reduceMul]
                          refine RW.skip rfl rfl (fun _ => rfl) ?_
                          dsimp only [put, List.set, ev, nth, List.nil_append, List.cons_append, md, Nat.reducePow, Nat.reduceAdd, Nat.reduceMul]
                          refine RW.skip rfl rfl (fun _ => rfl) ?_
                          dsimp only [put, List.set, ev, nth, List.nil_append, List.cons_append, md, Nat.reducePow, Nat.reduceAdd, Nat.reduceMul]
                          refine RW.pure rfl rfl (fun _ => rfl) (fun V hV => det_pick_false rfl) (fun _ _ _ => rfl) ?_
                          dsimp only [put, List.set, ev, nth, List.nil_append, List.cons_append, md, Nat.reducePow, Nat.reduceAdd, Nat.reduceMul]
                          refine RW.done (fun V => _ ++ flat [] V) rfl rfl (fun _ => rfl) (fun V hV => ?_)
                          try simp only [flat_nil, List.append_nil]
                          try dsimp only [put, blk, flat_nil, List.append_nil, List.append, List.eraseIdx, List.set, ev, nth, List.nil_append, List.cons_append, md, Nat.reducePow, Nat.reduceAdd, Nat.reduceMul]
                          refine WC.forget (.cons_cons _ (.cons _ (List.Sublist.refl _))) ?_
                          refine WC_cond_false rfl ?_
                          refine WC_skip ?_
                          refine WC_region ?_
                          refine WL_det rfl (det_addi (q := 1) rfl rfl (by omega)) ?_
                          dsimp only [put, List.take, List.drop, List.set, ev, nth, List.nil_append, List.cons_append, md, Nat.reducePow, Nat.reduceAdd, Nat.reduceMul]
                          refine WL_det rfl (det_move) ?_
                          dsimp only [put, List.take, List.drop, List.set, ev, nth, List.nil_append, List.cons_append, md, Nat.reducePow, Nat.reduceAdd, Nat.reduceMul]
                          refine WL_nil ?_
                          refine ⟨q + 1, ?_, ?_, ?_, ?_⟩
                          · rfl
                          · rfl
                          · omega
                          · omega
                · have hc6 := of_decide_eq_false hc6
                  obtain rfl : q = L.length := by omega
                  have hed : (p.getD (i - 1) 0, p.getD i 0) ∈ L := by have := hok.edge (i - 1) (by omega); rwa [show i - 1 + 1 = i by omega] at this
                  rw [List.take_length, decide_eq_true hed]
                  refine WC_exit ?_
                  refine inB_same ?_
                  refine WC_seq ?_
                  refine WC_draw [[], [0], [0, 1], [0, 1, 2], [0, 1, 2], [0, 1, 2, 3, 4], [0, 1, 2], [0, 1, 2], [0, 1, 2, 6, 7], [0, 1, 2, 6, 7, 8], [0, 1, 2, 3, 4, 5, 6, 7, 8, 9], [0, 1, 2, 3, 4, 5, 6, 7, 8, 9, 10]] [] 138 [] (List.nil_sublist _) mixed rfl (by decide) ?_
                  refine RW.pure rfl rfl (fun _ => rfl) (fun V hV => det_move) (fun _ _ _ => rfl) ?_
                  dsimp only [put, List.set, ev, nth, List.nil_append, List.cons_append, md, Nat.reducePow, Nat.reduceAdd, Nat.reduceMul]
                  refine RW.pure rfl rfl (fun _ => rfl) (fun V hV => det_not rfl) (fun _ _ _ => rfl) ?_
                  dsimp only [put, List.set, ev, nth, List.nil_append, List.cons_append, md, Nat.reducePow, Nat.reduceAdd, Nat.reduceMul]
                  refine RW.pure rfl rfl (fun _ => rfl) (fun V hV => det_move) (fun _ _ _ => rfl) ?_
                  dsimp only [put, List.set, ev, nth, List.nil_append, List.cons_append, md, Nat.reducePow, Nat.reduceAdd, Nat.reduceMul]
                  refine RW.pure rfl rfl (fun _ => rfl) (fun V hV => det_move) (fun _ _ _ => rfl) ?_
                  dsimp only [put, List.set, ev, nth, List.nil_append, List.cons_append, md, Nat.reducePow, Nat.reduceAdd, Nat.reduceMul]
                  refine RW.pure rfl rfl (fun _ => rfl) (fun V hV => det_move) (fun _ _ _ => rfl) ?_
                  dsimp only [put, List.set, ev, nth, List.nil_append, List.cons_append, md, Nat.reducePow, Nat.reduceAdd, Nat.reduceMul]
                  refine RW.pure rfl rfl (fun _ => rfl) (fun V hV => det_cutTo Try.underlying43 Try.sizeOf3 rfl rfl (by omega)) (fun _ _ _ => rfl) ?_
                  dsimp only [put, List.set, ev, nth, List.nil_append, List.cons_append, md, Nat.reducePow, Nat.reduceAdd, Nat.reduceMul]
                  refine RW.pure rfl rfl (fun _ => rfl) (fun V hV => det_move) (fun _ _ _ => rfl) ?_
                  dsimp only [put, List.set, ev, nth, List.nil_append, List.cons_append, md, Nat.reducePow, Nat.reduceAdd, Nat.reduceMul]
                  refine RW.pure rfl rfl (fun _ => rfl) (fun V hV => det_move) (fun _ _ _ => rfl) ?_
                  dsimp only [put, List.set, ev, nth, List.nil_append, List.cons_append, md, Nat.reducePow, Nat.reduceAdd, Nat.reduceMul]
                  refine RW.det [] rfl rfl rfl rfl (fun _ => rfl) (fun V hV => Det.rel (det_idxR Try.underlying43 Try.sizeOf3 rfl rfl (rfl) (by rw [iv_len]; omega) (fun w hw => RowO.rd hw 0 rfl h1))) (fun _ _ _ => rfl) ?_
                  dsimp only [put, List.set, ev, nth, List.nil_append, List.cons_append, md, Nat.reducePow, Nat.reduceAdd, Nat.reduceMul]
                  refine RW.det [] rfl rfl rfl rfl (fun _ => rfl) (fun V hV => Det.rel (det_loadR Try.isAgg3 rfl (fun w hw => RowO.rd hw 0 rfl h1) (iv_at p (by omega)))) (fun _ _ _ => rfl) ?_
                  dsimp only [put, List.set, ev, nth, List.nil_append, List.cons_append, md, Nat.reducePow, Nat.reduceAdd, Nat.reduceMul]
                  refine RW.det [] rfl rfl rfl rfl (fun _ => rfl) (fun V hV => Rel_call rfl Try.call26 (fun w hw => in_b (p.take i) (p.getD i 0) _ false (decide_eq_false (hok.once i (by omega))) (by rw [List.length_take]; omega) w (by rw [iv_take]; exact RdL.take (RowO.rd (hflat0 hw) 0 rfl h1) (by rw [iv_len]; omega)))) (fun _ _ _ => rfl) ?_
                  dsimp only [put, List.set, ev, nth, List.nil_append, List.cons_append, md, Nat.reducePow, Nat.reduceAdd, Nat.reduceMul]
                  refine RW.pure rfl rfl (fun _ => rfl) (fun V hV => det_pick_false rfl) (fun _ _ _ => rfl) ?_
                  dsimp only [put, List.set, ev, nth, List.nil_append, List.cons_append, md, Nat.reducePow, Nat.reduceAdd, Nat.reduceMul]
                  refine RW.done (fun V => _ ++ flat [] V) rfl rfl (fun _ => rfl) (fun V hV => ?_)
                  try simp only [flat_nil, List.append_nil]
                  try dsimp only [put, blk, flat_nil, List.append_nil, List.append, List.eraseIdx, List.set, ev, nth, List.nil_append, List.cons_append, md, Nat.reducePow, Nat.reduceAdd, Nat.reduceMul]
                  refine WC_cond_false rfl ?_
                  refine WC_skip ?_
                  refine WC_region ?_
                  refine WL_det rfl (det_move) ?_
                  dsimp only [put, List.take, List.drop, List.set, ev, nth, List.nil_append, List.cons_append, md, Nat.reducePow, Nat.reduceAdd, Nat.reduceMul]
                  refine WL_det rfl (det_addi (q := 1) rfl rfl (by omega)) ?_
                  dsimp only [put, List.take, List.drop, List.set, ev, nth, List.nil_append, List.cons_append, md, Nat.reducePow, Nat.reduceAdd, Nat.reduceMul]
                  refine WL_det rfl (det_assign) ?_
                  dsimp only [put, List.take, List.drop, List.set, ev, nth, List.nil_append, List.cons_append, md, Nat.reducePow, Nat.reduceAdd, Nat.reduceMul]
                  refine WL_nil ?_
                  refine ⟨i + 1, ?_, ?_, ?_, ?_⟩
                  · rfl
                  · rfl
                  · omega
                  · omega
            · have hc5 := of_decide_eq_false hc5
              obtain rfl : i = p.length := by omega
              refine WC_exit ?_
              refine inB_same ?_
              refine WC_seq ?_
              refine WC_region ?_
              refine WL_det rfl (det_assign) ?_
              dsimp only [put, List.take, List.drop, List.set, ev, nth, List.nil_append, List.cons_append, md, Nat.reducePow, Nat.reduceAdd, Nat.reduceMul]
              refine WL_nil ?_
              refine WC_ret ?_
              refine fin_tmp Try.results5 rfl ([]) (List.nil_sublist _) ?_
              exact ⟨rfl, rfl⟩

end Go.Proofs.Ytocmlaloafmfkaa
