/- What the claim of this folder needs of its texts, put together by a program of this claim. Conditions: none. -/
import Derived.Test.YtocmlaloafmfkaaBLM15
set_option linter.unusedSectionVars false
set_option linter.unusedSimpArgs false
set_option linter.unusedVariables false
set_option linter.unusedVariables false
set_option linter.unusedSectionVars false
set_option linter.unusedSimpArgs false
namespace Go.Proofs.Ytocmlaloafmfkaa
open Go.MW
/-- A row that begins its block, told by a list. -/
def RowL (t : TypeId) (l : List Value) (v : Value) (e : Option Nat × Obj) : Prop := RowV t l.length (fun i => l.getD i undef) v e
theorem RowL.app {t : TypeId} {l l' : List Value} {v : Value} {e : Option Nat × Obj} (h : RowV t (l.length + l'.length) (catV (fun i => l.getD i undef) l.length fun i => l'.getD i undef) v e) : RowL t (l ++ l') v e := by
  have h2 := h.congr (g' := fun i => (l ++ l').getD i undef) fun i hi => by
    unfold catV
    dsimp only
    by_cases hl : i < l.length
    · rw [if_pos hl, List.getD_eq_getElem?_getD, List.getD_eq_getElem?_getD, List.getElem?_append_left hl]
    · rw [if_neg hl, List.getD_eq_getElem?_getD, List.getD_eq_getElem?_getD, List.getElem?_append_right (by omega)]
  rw [← List.length_append] at h2
  exact h2
theorem RowL.o {t : TypeId} {l : List Value} {v : Value} {e : Option Nat × Obj} (h : RowL t l v e) : RowO t l v e := by
  have := RowO.ofV h
  have e1 : (List.range l.length).map (fun i => l.getD i undef) = l := by
    apply List.ext_getElem?
    intro i
    by_cases hi : i < l.length
    · simp [hi]
    · rw [List.getElem?_eq_none (by simp; omega), List.getElem?_eq_none (by omega)]
  rwa [e1] at this
theorem iv_app (l l' : List Int) : iv (l ++ l') = iv l ++ iv l' := by simp [iv]
theorem srch_len {α : Type} [DecidableEq α] (es : List (α × α)) (F : List α) : ((srch es F).map Prod.fst).length ≤ F.length + 2 * es.length := by
  rw [List.length_map]
  have h3 := stA_len es F (bndA es F)
  have h4 := nodes_len es
  unfold srch
  unfold bndA at *
  omega
def addAll {α : Type} [DecidableEq α] (es l : List (α × α)) : List (α × α) := l.foldl addE es
theorem addAll_len {α : Type} [DecidableEq α] (l : List (α × α)) : ∀ es : List (α × α), (addAll es l).length ≤ es.length + l.length := by
  unfold addAll
  induction l with
  | nil => intro es; simp
  | cons x l ih =>
    intro es
    rw [List.foldl_cons, List.length_cons]
    have h1 := ih (addE es x)
    have h2 := addE_len es x
    omega
theorem addAll_mem {α : Type} [DecidableEq α] (l : List (α × α)) : ∀ (es : List (α × α)) (e : α × α), e ∈ addAll es l ↔ e ∈ es ∨ e ∈ l := by
  unfold addAll
  induction l with
  | nil => intro es e; simp
  | cons x l ih =>
    intro es e
    rw [List.foldl_cons, ih, addE_mem, List.mem_cons]
    constructor
    · rintro ((h | h) | h)
      · exact .inl h
      · exact .inr (.inl h)
      · exact .inr (.inr h)
    · rintro (h | h | h)
      · exact .inl (.inl h)
      · exact .inl (.inr h)
      · exact .inr h
theorem addAll_take {L : List (Int × Int)} (es : List (Int × Int)) {k : Nat} (h : k < L.length) : addAll es (L.take (k + 1)) = addE (addAll es (L.take k)) ((L.getD k (0, 0)).1, (L.getD k (0, 0)).2) := by
  unfold addAll
  rw [List.take_succ_eq_append_getElem h, List.foldl_append, List.getD_eq_getElem?_getD, List.getElem?_eq_getElem h]
  rfl
theorem getD_memI {L : List Int} {q : Nat} (h : q < L.length) : L.getD q 0 ∈ L := by
  rw [List.getD_eq_getElem?_getD, List.getElem?_eq_getElem h]
  exact List.getElem_mem h
theorem more_facts {es : List (Int × Int)} (F G : List Int) :
    (∀ x ∈ (srch es (F ++ G)).map Prod.fst, x ∈ (srch es F).map Prod.fst ∨ x ∈ (srch es G).map Prod.fst) ∧ (∀ x ∈ (srch es F).map Prod.fst ++ (srch es G).map Prod.fst, x ∈ (srch es (F ++ G)).map Prod.fst) ∧
    ∀ l, ∀ x ∈ (srch es F).map Prod.fst, x ∈ (srch (addAll es l) F).map Prod.fst := by
  refine ⟨fun x hx => ?_, fun x hx => ?_, fun l x hx => ?_⟩
  · rcases (mem_srch.1 hx).app with h | h
    · exact .inl (mem_srch.2 h)
    · exact .inr (mem_srch.2 h)
  · rcases List.mem_append.1 hx with h | h
    · exact mem_srch.2 ((mem_srch.1 h).mono (fun _ h => h) fun y hy => List.mem_append.2 (.inl hy))
    · exact mem_srch.2 ((mem_srch.1 h).mono (fun _ h => h) fun y hy => List.mem_append.2 (.inr hy))
  · exact mem_srch.2 ((mem_srch.1 hx).mono (fun e he => (addAll_mem l es e).2 (.inl he)) fun _ h => h)

set_option maxRecDepth 100000 in
set_option maxHeartbeats 4000000 in
theorem lmore_spec (L L2 : List (Int × Int)) (F G : List Int) (va vb vf vg : Value) {w0 : World} {m0 : Mem} {w : World} (hw0 : Has w0 (m0) w) (hL : RdP w0 L va) (hL2 : RdP w0 L2 vb) (hF : RdL w0 (iv F) vf) (hG : RdL w0 (iv G) vg) :
    Calls Try.prog 6 [va, vb, .agg #[vf, vg]].toArray w (Post w0 fun v m => v = .bool true ∧ m = []) := by
  refine calls_of_WCm Try.func6 rfl ?_ hw0
  simp only [Try.ntmps6, List.length_cons, List.length_nil, Nat.reduceAdd, Nat.reduceSub, List.replicate, List.cons_append, List.nil_append]
  refine WC_seq ?_
  refine WC_region ?_
  refine WL_relAt 0 rfl (rel_box rfl rfl) ?_
  rintro _ _ ⟨b0, rfl, rfl⟩
  dsimp only [put, List.take, List.drop, List.set, ev, nth, List.nil_append, List.cons_append, md, Nat.reducePow, Nat.reduceAdd, Nat.reduceMul]
  refine WL_det rfl (det_assign) ?_
  dsimp only [put, List.take, List.drop, List.set, ev, nth, List.nil_append, List.cons_append, md, Nat.reducePow, Nat.reduceAdd, Nat.reduceMul]
  refine WL_nil ?_
  refine WC_seq ?_
  refine WC_seq ?_
  refine WC_region ?_
  refine WL_rel rfl (Rel_call rfl Try.call23 (fun w hw => lawake_spec w)) ?_
  rintro _ _ ⟨rfl, rfl⟩
  dsimp only [put, List.append_nil, List.set, ev, nth, List.nil_append, List.cons_append, md, Nat.reducePow, Nat.reduceAdd, Nat.reduceMul]
  try simp only [List.append_nil]
  refine WL_det rfl (det_not rfl) ?_
  dsimp only [put, List.take, List.drop, List.set, ev, nth, List.nil_append, List.cons_append, md, Nat.reducePow, Nat.reduceAdd, Nat.reduceMul]
  refine WL_nil ?_
  refine WC_cond_false rfl ?_
  refine WC_skip ?_
  refine WC_seq ?_
  refine WC_seq ?_
  by_cases h1 : 40 < L.length
  · refine WC_region ?_
    refine WL_det rfl (det_move) ?_
    dsimp only [put, List.take, List.drop, List.set, ev, nth, List.nil_append, List.cons_append, md, Nat.reducePow, Nat.reduceAdd, Nat.reduceMul]
    refine WL_det rfl (det_lenP Try.underlying52 rfl (fun w hw => RdP.far hw hL)) ?_
    dsimp only [put, List.take, List.drop, List.set, ev, nth, List.nil_append, List.cons_append, md, Nat.reducePow, Nat.reduceAdd, Nat.reduceMul]
    refine WL_det rfl (Det.bv true (det_gtr (q := 40) rfl rfl) (decide_eq_true h1)) ?_
    dsimp only [put, List.take, List.drop, List.set, ev, nth, List.nil_append, List.cons_append, md, Nat.reducePow, Nat.reduceAdd, Nat.reduceMul]
    refine WL_det rfl (det_move) ?_
    dsimp only [put, List.take, List.drop, List.set, ev, nth, List.nil_append, List.cons_append, md, Nat.reducePow, Nat.reduceAdd, Nat.reduceMul]
    refine WL_skipG ?_ ?_
    · rfl
    dsimp only [put, List.take, List.drop, List.set, ev, nth, List.nil_append, List.cons_append, md, Nat.reducePow, Nat.reduceAdd, Nat.reduceMul]
    refine WL_skipG ?_ ?_
    · rfl
    dsimp only [put, List.take, List.drop, List.set, ev, nth, List.nil_append, List.cons_append, md, Nat.reducePow, Nat.reduceAdd, Nat.reduceMul]
    refine WL_skipG ?_ ?_
    · rfl
    dsimp only [put, List.take, List.drop, List.set, ev, nth, List.nil_append, List.cons_append, md, Nat.reducePow, Nat.reduceAdd, Nat.reduceMul]
    refine WL_det rfl (det_pick_true rfl) ?_
    dsimp only [put, List.take, List.drop, List.set, ev, nth, List.nil_append, List.cons_append, md, Nat.reducePow, Nat.reduceAdd, Nat.reduceMul]
    refine WL_det rfl (det_move) ?_
    dsimp only [put, List.take, List.drop, List.set, ev, nth, List.nil_append, List.cons_append, md, Nat.reducePow, Nat.reduceAdd, Nat.reduceMul]
    refine WL_skipG ?_ ?_
    · rfl
    dsimp only [put, List.take, List.drop, List.set, ev, nth, List.nil_append, List.cons_append, md, Nat.reducePow, Nat.reduceAdd, Nat.reduceMul]
    refine WL_skipG ?_ ?_
    · rfl
    dsimp only [put, List.take, List.drop, List.set, ev, nth, List.nil_append, List.cons_append, md, Nat.reducePow, Nat.reduceAdd, Nat.reduceMul]
    refine WL_skipG ?_ ?_
    · rfl
    dsimp only [put, List.take, List.drop, List.set, ev, nth, List.nil_append, List.cons_append, md, Nat.reducePow, Nat.reduceAdd, Nat.reduceMul]
    refine WL_skipG ?_ ?_
    · rfl
    dsimp only [put, List.take, List.drop, List.set, ev, nth, List.nil_append, List.cons_append, md, Nat.reducePow, Nat.reduceAdd, Nat.reduceMul]
    refine WL_det rfl (det_pick_true rfl) ?_
    dsimp only [put, List.take, List.drop, List.set, ev, nth, List.nil_append, List.cons_append, md, Nat.reducePow, Nat.reduceAdd, Nat.reduceMul]
    refine WL_det rfl (det_move) ?_
    dsimp only [put, List.take, List.drop, List.set, ev, nth, List.nil_append, List.cons_append, md, Nat.reducePow, Nat.reduceAdd, Nat.reduceMul]
    refine WL_skipG ?_ ?_
    · rfl
    dsimp only [put, List.take, List.drop, List.set, ev, nth, List.nil_append, List.cons_append, md, Nat.reducePow, Nat.reduceAdd, Nat.reduceMul]
    refine WL_skipG ?_ ?_
    · rfl
    dsimp only [put, List.take, List.drop, List.set, ev, nth, List.nil_append, List.cons_append, md, Nat.reducePow, Nat.reduceAdd, Nat.reduceMul]
    refine WL_skipG ?_ ?_
    · rfl
    dsimp only [put, List.take, List.drop, List.set, ev, nth, List.nil_append, List.cons_append, md, Nat.reducePow, Nat.reduceAdd, Nat.reduceMul]
    refine WL_skipG ?_ ?_
    · rfl
    dsimp only [put, List.take, List.drop, List.set, ev, nth, List.nil_append, List.cons_append, md, Nat.reducePow, Nat.reduceAdd, Nat.reduceMul]
    refine WL_det rfl (det_pick_true rfl) ?_
    dsimp only [put, List.take, List.drop, List.set, ev, nth, List.nil_append, List.cons_append, md, Nat.reducePow, Nat.reduceAdd, Nat.reduceMul]
    refine WL_nil ?_
    refine WC_cond_true rfl ?_
    refine WC_seq ?_
    refine WC_region ?_
    refine WL_det rfl (det_assign) ?_
    dsimp only [put, List.take, List.drop, List.set, ev, nth, List.nil_append, List.cons_append, md, Nat.reducePow, Nat.reduceAdd, Nat.reduceMul]
    refine WL_nil ?_
    refine WC_ret ?_
    refine fin_tmp Try.results6 rfl ([]) (List.nil_sublist _) ?_
    exact ⟨rfl, rfl⟩
  · by_cases h2 : 40 < L2.length
    · refine WC_region ?_
      refine WL_det rfl (det_move) ?_
      dsimp only [put, List.take, List.drop, List.set, ev, nth, List.nil_append, List.cons_append, md, Nat.reducePow, Nat.reduceAdd, Nat.reduceMul]
      refine WL_det rfl (det_lenP Try.underlying52 rfl (fun w hw => RdP.far hw hL)) ?_
      dsimp only [put, List.take, List.drop, List.set, ev, nth, List.nil_append, List.cons_append, md, Nat.reducePow, Nat.reduceAdd, Nat.reduceMul]
      refine WL_det rfl (Det.bv false (det_gtr (q := 40) rfl rfl) (decide_eq_false h1)) ?_
      dsimp only [put, List.take, List.drop, List.set, ev, nth, List.nil_append, List.cons_append, md, Nat.reducePow, Nat.reduceAdd, Nat.reduceMul]
      refine WL_det rfl (det_move) ?_
      dsimp only [put, List.take, List.drop, List.set, ev, nth, List.nil_append, List.cons_append, md, Nat.reducePow, Nat.reduceAdd, Nat.reduceMul]
      refine WL_detG rfl (det_move) ?_
      dsimp only [put, List.take, List.drop, List.set, ev, nth, List.nil_append, List.cons_append, md, Nat.reducePow, Nat.reduceAdd, Nat.reduceMul]
      refine WL_detG rfl (det_lenP Try.underlying52 rfl (fun w hw => RdP.far hw hL2)) ?_
      dsimp only [put, List.take, List.drop, List.set, ev, nth, List.nil_append, List.cons_append, md, Nat.reducePow, Nat.reduceAdd, Nat.reduceMul]
      refine WL_detG rfl (Det.bv true (det_gtr (q := 40) rfl rfl) (decide_eq_true h2)) ?_
      dsimp only [put, List.take, List.drop, List.set, ev, nth, List.nil_append, List.cons_append, md, Nat.reducePow, Nat.reduceAdd, Nat.reduceMul]
      refine WL_det rfl (det_pick_false rfl) ?_
      dsimp only [put, List.take, List.drop, List.set, ev, nth, List.nil_append, List.cons_append, md, Nat.reducePow, Nat.reduceAdd, Nat.reduceMul]
      refine WL_det rfl (det_move) ?_
      dsimp only [put, List.take, List.drop, List.set, ev, nth, List.nil_append, List.cons_append, md, Nat.reducePow, Nat.reduceAdd, Nat.reduceMul]
      refine WL_skipG ?_ ?_
      · rfl
      dsimp only [put, List.take, List.drop, List.set, ev, nth, List.nil_append, List.cons_append, md, Nat.reducePow, Nat.reduceAdd, Nat.reduceMul]
      refine WL_skipG ?_ ?_
      · rfl
      dsimp only [put, List.take, List.drop, List.set, ev, nth, List.nil_append, List.cons_append, md, Nat.reducePow, Nat.reduceAdd, Nat.reduceMul]
      refine WL_skipG ?_ ?_
      · rfl
      dsimp only [put, List.take, List.drop, List.set, ev, nth, List.nil_append, List.cons_append, md, Nat.reducePow, Nat.reduceAdd, Nat.reduceMul]
      refine WL_skipG ?_ ?_
      · rfl
      dsimp only [put, List.take, List.drop, List.set, ev, nth, List.nil_append, List.cons_append, md, Nat.reducePow, Nat.reduceAdd, Nat.reduceMul]
      refine WL_det rfl (det_pick_true rfl) ?_
      dsimp only [put, List.take, List.drop, List.set, ev, nth, List.nil_append, List.cons_append, md, Nat.reducePow, Nat.reduceAdd, Nat.reduceMul]
      refine WL_det rfl (det_move) ?_
      dsimp only [put, List.take, List.drop, List.set, ev, nth, List.nil_append, List.cons_append, md, Nat.reducePow, Nat.reduceAdd, Nat.reduceMul]
      refine WL_skipG ?_ ?_
      · rfl
      dsimp only [put, List.take, List.drop, List.set, ev, nth, List.nil_append, List.cons_append, md, Nat.reducePow, Nat.reduceAdd, Nat.reduceMul]
      refine WL_skipG ?_ ?_
      · rfl
      dsimp only [put, List.take, List.drop, List.set, ev, nth, List.nil_append, List.cons_append, md, Nat.reducePow, Nat.reduceAdd, Nat.reduceMul]
      refine WL_skipG ?_ ?_
      · rfl
      dsimp only [put, List.take, List.drop, List.set, ev, nth, List.nil_append, List.cons_append, md, Nat.reducePow, Nat.reduceAdd, Nat.reduceMul]
      refine WL_skipG ?_ ?_
      · rfl
      dsimp only [put, List.take, List.drop, List.set, ev, nth, List.nil_append, List.cons_append, md, Nat.reducePow, Nat.reduceAdd, Nat.reduceMul]
      refine WL_det rfl (det_pick_true rfl) ?_
      dsimp only [put, List.take, List.drop, List.set, ev, nth, List.nil_append, List.cons_append, md, Nat.reducePow, Nat.reduceAdd, Nat.reduceMul]
      refine WL_nil ?_
      refine WC_cond_true rfl ?_
      refine WC_seq ?_
      refine WC_region ?_
      refine WL_det rfl (det_assign) ?_
      dsimp only [put, List.take, List.drop, List.set, ev, nth, List.nil_append, List.cons_append, md, Nat.reducePow, Nat.reduceAdd, Nat.reduceMul]
      refine WL_nil ?_
      refine WC_ret ?_
      refine fin_tmp Try.results6 rfl ([]) (List.nil_sublist _) ?_
      exact ⟨rfl, rfl⟩
    · by_cases h3 : 20 < F.length
      · refine WC_region ?_
        refine WL_det rfl (det_move) ?_
        dsimp only [put, List.take, List.drop, List.set, ev, nth, List.nil_append, List.cons_append, md, Nat.reducePow, Nat.reduceAdd, Nat.reduceMul]
        refine WL_det rfl (det_lenP Try.underlying52 rfl (fun w hw => RdP.far hw hL)) ?_
        dsimp only [put, List.take, List.drop, List.set, ev, nth, List.nil_append, List.cons_append, md, Nat.reducePow, Nat.reduceAdd, Nat.reduceMul]
        refine WL_det rfl (Det.bv false (det_gtr (q := 40) rfl rfl) (decide_eq_false h1)) ?_
        dsimp only [put, List.take, List.drop, List.set, ev, nth, List.nil_append, List.cons_append, md, Nat.reducePow, Nat.reduceAdd, Nat.reduceMul]
        refine WL_det rfl (det_move) ?_
        dsimp only [put, List.take, List.drop, List.set, ev, nth, List.nil_append, List.cons_append, md, Nat.reducePow, Nat.reduceAdd, Nat.reduceMul]
        refine WL_detG rfl (det_move) ?_
        dsimp only [put, List.take, List.drop, List.set, ev, nth, List.nil_append, List.cons_append, md, Nat.reducePow, Nat.reduceAdd, Nat.reduceMul]
        refine WL_detG rfl (det_lenP Try.underlying52 rfl (fun w hw => RdP.far hw hL2)) ?_
        dsimp only [put, List.take, List.drop, List.set, ev, nth, List.nil_append, List.cons_append, md, Nat.reducePow, Nat.reduceAdd, Nat.reduceMul]
        refine WL_detG rfl (Det.bv false (det_gtr (q := 40) rfl rfl) (decide_eq_false h2)) ?_
        dsimp only [put, List.take, List.drop, List.set, ev, nth, List.nil_append, List.cons_append, md, Nat.reducePow, Nat.reduceAdd, Nat.reduceMul]
        refine WL_det rfl (det_pick_false rfl) ?_
        dsimp only [put, List.take, List.drop, List.set, ev, nth, List.nil_append, List.cons_append, md, Nat.reducePow, Nat.reduceAdd, Nat.reduceMul]
        refine WL_det rfl (det_move) ?_
        dsimp only [put, List.take, List.drop, List.set, ev, nth, List.nil_append, List.cons_append, md, Nat.reducePow, Nat.reduceAdd, Nat.reduceMul]
        refine WL_detG rfl (det_idxA (j := 0) Try.underlying61 Try.sizeOf43 rfl rfl (rfl) (by omega)) ?_
        dsimp only [put, List.take, List.drop, List.set, ev, nth, List.nil_append, List.cons_append, md, Nat.reducePow, Nat.reduceAdd, Nat.reduceMul]
        refine WL_detG rfl (det_load 0 Try.isAgg43 rfl rfl rfl) ?_
        dsimp only [put, List.take, List.drop, List.set, ev, nth, List.nil_append, List.cons_append, md, Nat.reducePow, Nat.reduceAdd, Nat.reduceMul]
        refine WL_detG rfl (det_lenR Try.underlying43 rfl (fun w hw => RdL.far hw hF) (iv_len F)) ?_
        dsimp only [put, List.take, List.drop, List.set, ev, nth, List.nil_append, List.cons_append, md, Nat.reducePow, Nat.reduceAdd, Nat.reduceMul]
        refine WL_detG rfl (Det.bv true (det_gtr (q := 20) rfl rfl) (decide_eq_true h3)) ?_
        dsimp only [put, List.take, List.drop, List.set, ev, nth, List.nil_append, List.cons_append, md, Nat.reducePow, Nat.reduceAdd, Nat.reduceMul]
        refine WL_det rfl (det_pick_false rfl) ?_
        dsimp only [put, List.take, List.drop, List.set, ev, nth, List.nil_append, List.cons_append, md, Nat.reducePow, Nat.reduceAdd, Nat.reduceMul]
        refine WL_det rfl (det_move) ?_
        dsimp only [put, List.take, List.drop, List.set, ev, nth, List.nil_append, List.cons_append, md, Nat.reducePow, Nat.reduceAdd, Nat.reduceMul]
        refine WL_skipG ?_ ?_
        · rfl
        dsimp only [put, List.take, List.drop, List.set, ev, nth, List.nil_append, List.cons_append, md, Nat.reducePow, Nat.reduceAdd, Nat.reduceMul]
        refine WL_skipG ?_ ?_
        · rfl
        dsimp only [put, List.take, List.drop, List.set, ev, nth, List.nil_append, List.cons_append, md, Nat.reducePow, Nat.reduceAdd, Nat.reduceMul]
        refine WL_skipG ?_ ?_
        · rfl
        dsimp only [put, List.take, List.drop, List.set, ev, nth, List.nil_append, List.cons_append, md, Nat.reducePow, Nat.reduceAdd, Nat.reduceMul]
        refine WL_skipG ?_ ?_
        · rfl
        dsimp only [put, List.take, List.drop, List.set, ev, nth, List.nil_append, List.cons_append, md, Nat.reducePow, Nat.reduceAdd, Nat.reduceMul]
        refine WL_det rfl (det_pick_true rfl) ?_
        dsimp only [put, List.take, List.drop, List.set, ev, nth, List.nil_append, List.cons_append, md, Nat.reducePow, Nat.reduceAdd, Nat.reduceMul]
        refine WL_nil ?_
        refine WC_cond_true rfl ?_
        refine WC_seq ?_
        refine WC_region ?_
        refine WL_det rfl (det_assign) ?_
        dsimp only [put, List.take, List.drop, List.set, ev, nth, List.nil_append, List.cons_append, md, Nat.reducePow, Nat.reduceAdd, Nat.reduceMul]
        refine WL_nil ?_
        refine WC_ret ?_
        refine fin_tmp Try.results6 rfl ([]) (List.nil_sublist _) ?_
        exact ⟨rfl, rfl⟩
      · by_cases h4 : 20 < G.length
        · refine WC_region ?_
          refine WL_det rfl (det_move) ?_
          dsimp only [put, List.take, List.drop, List.set, ev, nth, List.nil_append, List.cons_append, md, Nat.reducePow, Nat.reduceAdd, Nat.reduceMul]
          refine WL_det rfl (det_lenP Try.underlying52 rfl (fun w hw => RdP.far hw hL)) ?_
          dsimp only [put, List.take, List.drop, List.set, ev, nth, List.nil_append, List.cons_append, md, Nat.reducePow, Nat.reduceAdd, Nat.reduceMul]
          refine WL_det rfl (Det.bv false (det_gtr (q := 40) rfl rfl) (decide_eq_false h1)) ?_
          dsimp only [put, List.take, List.drop, List.set, ev, nth, List.nil_append, List.cons_append, md, Nat.reducePow, Nat.reduceAdd, Nat.reduceMul]
          refine WL_det rfl (det_move) ?_
          dsimp only [put, List.take, List.drop, List.set, ev, nth, List.nil_append, List.cons_append, md, Nat.reducePow, Nat.reduceAdd, Nat.reduceMul]
          refine WL_detG rfl (det_move) ?_
          dsimp only [put, List.take, List.drop, List.set, ev, nth, List.nil_append, List.cons_append, md, Nat.reducePow, Nat.reduceAdd, Nat.reduceMul]
          refine WL_detG rfl (det_lenP Try.underlying52 rfl (fun w hw => RdP.far hw hL2)) ?_
          dsimp only [put, List.take, List.drop, List.set, ev, nth, List.nil_append, List.cons_append, md, Nat.reducePow, Nat.reduceAdd, Nat.reduceMul]
          refine WL_detG rfl (Det.bv false (det_gtr (q := 40) rfl rfl) (decide_eq_false h2)) ?_
          dsimp only [put, List.take, List.drop, List.set, ev, nth, List.nil_append, List.cons_append, md, Nat.reducePow, Nat.reduceAdd, Nat.reduceMul]
          refine WL_det rfl (det_pick_false rfl) ?_
          dsimp only [put, List.take, List.drop, List.set, ev, nth, List.nil_append, List.cons_append, md, Nat.reducePow, Nat.reduceAdd, Nat.reduceMul]
          refine WL_det rfl (det_move) ?_
          dsimp only [put, List.take, List.drop, List.set, ev, nth, List.nil_append, List.cons_append, md, Nat.reducePow, Nat.reduceAdd, Nat.reduceMul]
          refine WL_detG rfl (det_idxA (j := 0) Try.underlying61 Try.sizeOf43 rfl rfl (rfl) (by omega)) ?_
          dsimp only [put, List.take, List.drop, List.set, ev, nth, List.nil_append, List.cons_append, md, Nat.reducePow, Nat.reduceAdd, Nat.reduceMul]
          refine WL_detG rfl (det_load 0 Try.isAgg43 rfl rfl rfl) ?_
          dsimp only [put, List.take, List.drop, List.set, ev, nth, List.nil_append, List.cons_append, md, Nat.reducePow, Nat.reduceAdd, Nat.reduceMul]
          refine WL_detG rfl (det_lenR Try.underlying43 rfl (fun w hw => RdL.far hw hF) (iv_len F)) ?_
          dsimp only [put, List.take, List.drop, List.set, ev, nth, List.nil_append, List.cons_append, md, Nat.reducePow, Nat.reduceAdd, Nat.reduceMul]
          refine WL_detG rfl (Det.bv false (det_gtr (q := 20) rfl rfl) (decide_eq_false h3)) ?_
          dsimp only [put, List.take, List.drop, List.set, ev, nth, List.nil_append, List.cons_append, md, Nat.reducePow, Nat.reduceAdd, Nat.reduceMul]
          refine WL_det rfl (det_pick_false rfl) ?_
          dsimp only [put, List.take, List.drop, List.set, ev, nth, List.nil_append, List.cons_append, md, Nat.reducePow, Nat.reduceAdd, Nat.reduceMul]
          refine WL_det rfl (det_move) ?_
          dsimp only [put, List.take, List.drop, List.set, ev, nth, List.nil_append, List.cons_append, md, Nat.reducePow, Nat.reduceAdd, Nat.reduceMul]
          refine WL_detG rfl (det_idxA (j := 1) Try.underlying61 Try.sizeOf43 rfl rfl (rfl) (by omega)) ?_
          dsimp only [put, List.take, List.drop, List.set, ev, nth, List.nil_append, List.cons_append, md, Nat.reducePow, Nat.reduceAdd, Nat.reduceMul]
          refine WL_detG rfl (det_load 0 Try.isAgg43 rfl rfl rfl) ?_
          dsimp only [put, List.take, List.drop, List.set, ev, nth, List.nil_append, List.cons_append, md, Nat.reducePow, Nat.reduceAdd, Nat.reduceMul]
          refine WL_detG rfl (det_lenR Try.underlying43 rfl (fun w hw => RdL.far hw hG) (iv_len G)) ?_
          dsimp only [put, List.take, List.drop, List.set, ev, nth, List.nil_append, List.cons_append, md, Nat.reducePow, Nat.reduceAdd, Nat.reduceMul]
          refine WL_detG rfl (Det.bv true (det_gtr (q := 20) rfl rfl) (decide_eq_true h4)) ?_
          dsimp only [put, List.take, List.drop, List.set, ev, nth, List.nil_append, List.cons_append, md, Nat.reducePow, Nat.reduceAdd, Nat.reduceMul]
          refine WL_det rfl (det_pick_false rfl) ?_
          dsimp only [put, List.take, List.drop, List.set, ev, nth, List.nil_append, List.cons_append, md, Nat.reducePow, Nat.reduceAdd, Nat.reduceMul]
          refine WL_nil ?_
          refine WC_cond_true rfl ?_
          refine WC_seq ?_
          refine WC_region ?_
          refine WL_det rfl (det_assign) ?_
          dsimp only [put, List.take, List.drop, List.set, ev, nth, List.nil_append, List.cons_append, md, Nat.reducePow, Nat.reduceAdd, Nat.reduceMul]
          refine WL_nil ?_
          refine WC_ret ?_
          refine fin_tmp Try.results6 rfl ([]) (List.nil_sublist _) ?_
          exact ⟨rfl, rfl⟩
        · refine WC_region ?_
          refine WL_det rfl (det_move) ?_
          dsimp only [put, List.take, List.drop, List.set, ev, nth, List.nil_append, List.cons_append, md, Nat.reducePow, Nat.reduceAdd, Nat.reduceMul]
          refine WL_det rfl (det_lenP Try.underlying52 rfl (fun w hw => RdP.far hw hL)) ?_
          dsimp only [put, List.take, List.drop, List.set, ev, nth, List.nil_append, List.cons_append, md, Nat.reducePow, Nat.reduceAdd, Nat.reduceMul]
          refine WL_det rfl (Det.bv false (det_gtr (q := 40) rfl rfl) (decide_eq_false h1)) ?_
          dsimp only [put, List.take, List.drop, List.set, ev, nth, List.nil_append, List.cons_append, md, Nat.reducePow, Nat.reduceAdd, Nat.reduceMul]
          refine WL_det rfl (det_move) ?_
          dsimp only [put, List.take, List.drop, List.set, ev, nth, List.nil_append, List.cons_append, md, Nat.reducePow, Nat.reduceAdd, Nat.reduceMul]
          refine WL_detG rfl (det_move) ?_
          dsimp only [put, List.take, List.drop, List.set, ev, nth, List.nil_append, List.cons_append, md, Nat.reducePow, Nat.reduceAdd, Nat.reduceMul]
          refine WL_detG rfl (det_lenP Try.underlying52 rfl (fun w hw => RdP.far hw hL2)) ?_
          dsimp only [put, List.take, List.drop, List.set, ev, nth, List.nil_append, List.cons_append, md, Nat.reducePow, Nat.reduceAdd, Nat.reduceMul]
          refine WL_detG rfl (Det.bv false (det_gtr (q := 40) rfl rfl) (decide_eq_false h2)) ?_
          dsimp only [put, List.take, List.drop, List.set, ev, nth, List.nil_append, List.cons_append, md, Nat.reducePow, Nat.reduceAdd, Nat.reduceMul]
          refine WL_det rfl (det_pick_false rfl) ?_
          dsimp only [put, List.take, List.drop, List.set, ev, nth, List.nil_append, List.cons_append, md, Nat.reducePow, Nat.reduceAdd, Nat.reduceMul]
          refine WL_det rfl (det_move) ?_
          dsimp only [put, List.take, List.drop, List.set, ev, nth, List.nil_append, List.cons_append, md, Nat.reducePow, Nat.reduceAdd, Nat.reduceMul]
          refine WL_detG rfl (det_idxA (j := 0) Try.underlying61 Try.sizeOf43 rfl rfl (rfl) (by omega)) ?_
          dsimp only [put, List.take, List.drop, List.set, ev, nth, List.nil_append, List.cons_append, md, Nat.reducePow, Nat.reduceAdd, Nat.reduceMul]
          refine WL_detG rfl (det_load 0 Try.isAgg43 rfl rfl rfl) ?_
          dsimp only [put, List.take, List.drop, List.set, ev, nth, List.nil_append, List.cons_append, md, Nat.reducePow, Nat.reduceAdd, Nat.reduceMul]
          refine WL_detG rfl (det_lenR Try.underlying43 rfl (fun w hw => RdL.far hw hF) (iv_len F)) ?_
          dsimp only [put, List.take, List.drop, List.set, ev, nth, List.nil_append, List.cons_append, md, Nat.reducePow, Nat.reduceAdd, Nat.reduceMul]
          refine WL_detG rfl (Det.bv false (det_gtr (q := 20) rfl rfl) (decide_eq_false h3)) ?_
          dsimp only [put, List.take, List.drop, List.set, ev, nth, List.nil_append, List.cons_append, md, Nat.reducePow, Nat.reduceAdd, Nat.reduceMul]
          refine WL_det rfl (det_pick_false rfl) ?_
          dsimp only [put, List.take, List.drop, List.set, ev, nth, List.nil_append, List.cons_append, md, Nat.reducePow, Nat.reduceAdd, Nat.reduceMul]
          refine WL_det rfl (det_move) ?_
          dsimp only [put, List.take, List.drop, List.set, ev, nth, List.nil_append, List.cons_append, md, Nat.reducePow, Nat.reduceAdd, Nat.reduceMul]
          refine WL_detG rfl (det_idxA (j := 1) Try.underlying61 Try.sizeOf43 rfl rfl (rfl) (by omega)) ?_
          dsimp only [put, List.take, List.drop, List.set, ev, nth, List.nil_append, List.cons_append, md, Nat.reducePow, Nat.reduceAdd, Nat.reduceMul]
          refine WL_detG rfl (det_load 0 Try.isAgg43 rfl rfl rfl) ?_
          dsimp only [put, List.take, List.drop, List.set, ev, nth, List.nil_append, List.cons_append, md, Nat.reducePow, Nat.reduceAdd, Nat.reduceMul]
          refine WL_detG rfl (det_lenR Try.underlying43 rfl (fun w hw => RdL.far hw hG) (iv_len G)) ?_
          dsimp only [put, List.take, List.drop, List.set, ev, nth, List.nil_append, List.cons_append, md, Nat.reducePow, Nat.reduceAdd, Nat.reduceMul]
          refine WL_detG rfl (Det.bv false (det_gtr (q := 20) rfl rfl) (decide_eq_false h4)) ?_
          dsimp only [put, List.take, List.drop, List.set, ev, nth, List.nil_append, List.cons_append, md, Nat.reducePow, Nat.reduceAdd, Nat.reduceMul]
          refine WL_det rfl (det_pick_false rfl) ?_
          dsimp only [put, List.take, List.drop, List.set, ev, nth, List.nil_append, List.cons_append, md, Nat.reducePow, Nat.reduceAdd, Nat.reduceMul]
          refine WL_nil ?_
          refine WC_cond_false rfl ?_
          refine WC_skip ?_
          refine WC_seq ?_
          refine WC_region ?_
          refine WL_det rfl (det_move) ?_
          dsimp only [put, List.take, List.drop, List.set, ev, nth, List.nil_append, List.cons_append, md, Nat.reducePow, Nat.reduceAdd, Nat.reduceMul]
          refine WL_chg rfl (Chg_callT [_] [] _ rfl Try.call24 rfl (fun w mm hw => graph_spec L va (by omega) hw hL)) ?_
          rintro _ _ ⟨M, ⟨gb, rfl, hM⟩, rfl⟩
          have hol := once_len L
          dsimp only [put, setM, List.zip, List.zipWith, List.take, List.drop, List.append_nil, List.set, ev, nth, List.nil_append, List.cons_append, md, Nat.reducePow, Nat.reduceAdd, Nat.reduceMul]
          refine WL_det rfl (det_assign) ?_
          dsimp only [put, List.take, List.drop, List.set, ev, nth, List.nil_append, List.cons_append, md, Nat.reducePow, Nat.reduceAdd, Nat.reduceMul]
          refine WL_nil ?_
          refine WC_seq ?_
          refine WC_draw [[], [], [1], [0, 1, 2], [], [], [5], [0, 1, 2, 3, 4, 5, 6], [0, 1, 2, 3, 4, 5, 6, 7], [0, 1, 2, 3, 4, 5, 6, 7, 8]] [] 128 [] (List.nil_sublist _) mixed rfl (by decide) ?_
          refine RW.pure rfl rfl (fun _ => rfl) (fun V hV => det_move) (fun _ _ _ => rfl) ?_
          dsimp only [put, List.set, ev, nth, List.nil_append, List.cons_append, md, Nat.reducePow, Nat.reduceAdd, Nat.reduceMul]
          refine RW.pure rfl rfl (fun _ => rfl) (fun V hV => det_idxA (j := 0) Try.underlying61 Try.sizeOf43 rfl rfl (rfl) (by omega)) (fun _ _ _ => rfl) ?_
          dsimp only [put, List.set, ev, nth, List.nil_append, List.cons_append, md, Nat.reducePow, Nat.reduceAdd, Nat.reduceMul]
          refine RW.det [] rfl rfl rfl rfl (fun _ => rfl) (fun V hV => Det.rel (det_load 0 Try.isAgg43 rfl rfl rfl)) (fun _ _ _ => rfl) ?_
          dsimp only [put, List.set, ev, nth, List.nil_append, List.cons_append, md, Nat.reducePow, Nat.reduceAdd, Nat.reduceMul]
          refine RW.rel' (R0 := fun _ v m => ∃ e, RowO 3 (iv ((srch (onceE L) F).map Prod.fst)) v e ∧ m = [e]) [] rfl rfl rfl rfl (fun _ => rfl) rfl (fun V hV => Rel_call rfl Try.call27 (fun w hw => reachI_spec gb _ F vf (by omega) (by omega) w (hM.facts (Has.dropN (hflat0 hw) 1)) (RdL.far hw hF))) (fun _ _ _ _ _ h => h) ?_
          dsimp only [put, List.set, ev, nth, List.nil_append, List.cons_append, md, Nat.reducePow, Nat.reduceAdd, Nat.reduceMul]
          refine RW.pure rfl rfl (fun _ => rfl) (fun V hV => det_move) (fun _ _ _ => rfl) ?_
          dsimp only [put, List.set, ev, nth, List.nil_append, List.cons_append, md, Nat.reducePow, Nat.reduceAdd, Nat.reduceMul]
          refine RW.pure rfl rfl (fun _ => rfl) (fun V hV => det_idxA (j := 1) Try.underlying61 Try.sizeOf43 rfl rfl (rfl) (by omega)) (fun _ _ _ => rfl) ?_
          dsimp only [put, List.set, ev, nth, List.nil_append, List.cons_append, md, Nat.reducePow, Nat.reduceAdd, Nat.reduceMul]
          refine RW.det [] rfl rfl rfl rfl (fun _ => rfl) (fun V hV => Det.rel (det_load 0 Try.isAgg43 rfl rfl rfl)) (fun _ _ _ => rfl) ?_
          dsimp only [put, List.set, ev, nth, List.nil_append, List.cons_append, md, Nat.reducePow, Nat.reduceAdd, Nat.reduceMul]
          refine RW.rel' (R0 := fun _ v m => ∃ e, RowO 3 (iv ((srch (onceE L) G).map Prod.fst)) v e ∧ m = [e]) [] rfl rfl rfl rfl (fun _ => rfl) rfl (fun V hV => Rel_call rfl Try.call27 (fun w hw => reachI_spec gb _ G vg (by omega) (by omega) w (hM.facts (Has.dropN (hflat0 hw) 1)) (RdL.far hw hG))) (fun _ _ _ _ _ h => h) ?_
          dsimp only [put, List.set, ev, nth, List.nil_append, List.cons_append, md, Nat.reducePow, Nat.reduceAdd, Nat.reduceMul]
          refine RW.pure rfl rfl (fun _ => rfl) (fun V hV => det_assign) (fun V V' hV => by first | rfl | (dsimp only [ev, nth]; simp only [hV 3 (by decide)])) ?_
          dsimp only [put, List.set, ev, nth, List.nil_append, List.cons_append, md, Nat.reducePow, Nat.reduceAdd, Nat.reduceMul]
          refine RW.pure rfl rfl (fun _ => rfl) (fun V hV => det_assign) (fun V V' hV => by first | rfl | (dsimp only [ev, nth]; simp only [hV 7 (by decide)])) ?_
          dsimp only [put, List.set, ev, nth, List.nil_append, List.cons_append, md, Nat.reducePow, Nat.reduceAdd, Nat.reduceMul]
          refine RW.done (fun V => _ ++ flat [3, 7] V) rfl rfl (fun _ => rfl) (fun V hV => ?_)
          obtain ⟨e3, hr3, hq3⟩ : ∃ e, RowO 3 (iv ((srch (onceE L) F).map Prod.fst)) (V 3).1 e ∧ (V 3).2 = [e] := hV 3 _ rfl
          obtain ⟨v3, hv3⟩ : ∃ v, v = (V 3).1 := ⟨_, rfl⟩
          rw [← hv3] at hr3
          obtain ⟨e7, hr7, hq7⟩ : ∃ e, RowO 3 (iv ((srch (onceE L) G).map Prod.fst)) (V 7).1 e ∧ (V 7).2 = [e] := hV 7 _ rfl
          obtain ⟨v7, hv7⟩ : ∃ v, v = (V 7).1 := ⟨_, rfl⟩
          rw [← hv7] at hr7
          simp only [hq3, ← hv3, hq7, ← hv7, List.append_nil, flat_cons, flat_nil]
          try simp only [flat_nil, List.append_nil]
          try dsimp only [put, blk, flat_nil, List.append_nil, List.append, List.eraseIdx, List.set, ev, nth, List.nil_append, List.cons_append, md, Nat.reducePow, Nat.reduceAdd, Nat.reduceMul]
          clear hV
          refine WC.perm (m' := (some b0, .cells #[vf, vg] 61 (0, 0)) :: e3 :: e7 :: (M ++ m0)) (List.Perm.cons _ (List.perm_append_comm (l₁ := [e3, e7]) (l₂ := M ++ m0))) ?_
          refine WC_seq ?_
          refine WC_draw [[], [], [], [2], [1, 2, 3], [], [5], [1, 2, 3, 4, 5, 6], [0, 1, 2, 3, 4, 5, 6, 7], [0, 1, 2, 3, 4, 5, 6, 7, 8]] [4, 7, 8] 128 [_] (.cons_cons _ (List.nil_sublist _)) mixed rfl (by decide) ?_
          refine RW.pure rfl rfl (fun _ => rfl) (fun V hV => det_move) (fun _ _ _ => rfl) ?_
          dsimp only [put, List.set, ev, nth, List.nil_append, List.cons_append, md, Nat.reducePow, Nat.reduceAdd, Nat.reduceMul]
          refine RW.rel' [] rfl rfl rfl rfl (fun _ => rfl) rfl (fun V hV => rel_lit0 Try.underlying43 Try.sizeOf3) (fun _ _ _ _ _ h => h) ?_
          dsimp only [put, List.set, ev, nth, List.nil_append, List.cons_append, md, Nat.reducePow, Nat.reduceAdd, Nat.reduceMul]
          refine RW.pure rfl rfl (fun _ => rfl) (fun V hV => det_idxA (j := 0) Try.underlying61 Try.sizeOf43 rfl rfl (rfl) (by omega)) (fun _ _ _ => rfl) ?_
          dsimp only [put, List.set, ev, nth, List.nil_append, List.cons_append, md, Nat.reducePow, Nat.reduceAdd, Nat.reduceMul]
          refine RW.det [] rfl rfl rfl rfl (fun _ => rfl) (fun V hV => Det.rel (det_load 0 Try.isAgg43 rfl rfl rfl)) (fun _ _ _ => rfl) ?_
          dsimp only [put, List.set, ev, nth, List.nil_append, List.cons_append, md, Nat.reducePow, Nat.reduceAdd, Nat.reduceMul]
          refine RW.tail' (R0 := fun _ v m' => ∃ e, RowL 3 (iv F) v e ∧ m' = (some b0, .cells #[vf, vg] 61 (0, 0)) :: e :: (e3 :: e7 :: (M ++ m0))) (B := fun V => _ ++ flat [1] V) rfl rfl rfl rfl (fun _ => rfl) (fun V hV => by
            have e1 : (V 1).2 = _ := IsSl.mem (hV 1 (by decide) _ rfl)
            have p1 := IsSl.ptr (hV 1 (by decide) _ rfl)
            simp only [flat_cons, flat_nil, List.append_nil, e1]
            intro w hw
            refine Runs_mono (chg_appendVL 1 (g := fun i => ([] : List Value).getD i undef) rfl (RowV.none0 3 _ _) p1 rfl (fun w hw => RdL.far hw hF) (iv_one F) Try.underlying43 ei3 rfl (by rw [iv_len]; omega) (by decide) w (hw.perm (List.Perm.cons _ (List.perm_append_comm (l₁ := [_]))))) ?_
            rintro v w' ⟨m', ⟨e, hr, rfl⟩, hh⟩
            exact ⟨_, ⟨e, @RowL.app _ [] _ _ _ hr, rfl⟩, hh⟩) (fun _ _ _ _ _ h => h) (fun V hV v m' h => by obtain ⟨_, _, rfl⟩ := h; exact .cons_cons _ (List.nil_sublist _)) ?_
          dsimp only [put, List.set, ev, nth, List.nil_append, List.cons_append, md, Nat.reducePow, Nat.reduceAdd, Nat.reduceMul]
          refine RW.pure rfl rfl (fun _ => rfl) (fun V hV => det_idxA (j := 1) Try.underlying61 Try.sizeOf43 rfl rfl (rfl) (by omega)) (fun _ _ _ => rfl) ?_
          dsimp only [put, List.set, ev, nth, List.nil_append, List.cons_append, md, Nat.reducePow, Nat.reduceAdd, Nat.reduceMul]
          refine RW.pure rfl rfl (fun _ => rfl) (fun V hV => det_load 0 Try.isAgg43 rfl rfl rfl) (fun _ _ _ => rfl) ?_
          dsimp only [put, List.set, ev, nth, List.nil_append, List.cons_append, md, Nat.reducePow, Nat.reduceAdd, Nat.reduceMul]
          refine RW.tail' (R0 := fun _ v m' => ∃ e, RowL 3 (iv (F ++ G)) v e ∧ m' = (some b0, .cells #[vf, vg] 61 (0, 0)) :: e :: (e3 :: e7 :: (M ++ m0))) (B := fun V => (V 4).2) rfl rfl rfl rfl (fun _ => rfl) (fun V hV => by
            obtain ⟨e4, hr4, hm4⟩ := hV 4 (by decide) _ rfl
            rw [hm4]
            intro w hw
            refine Runs_mono (chg_appendVL 1 rfl hr4 rfl rfl (fun w hw => RdL.far hw hG) (iv_one G) Try.underlying43 ei3 rfl (by rw [iv_len, iv_len]; omega) (by decide) w hw) ?_
            rintro v w' ⟨m', ⟨e, hr, rfl⟩, hh⟩
            exact ⟨_, ⟨e, by rw [iv_app]; exact RowL.app hr, rfl⟩, hh⟩) (fun _ _ _ _ _ h => h) (fun V hV v m' h => by obtain ⟨_, _, rfl⟩ := h; exact .cons_cons _ (List.nil_sublist _)) ?_
          dsimp only [put, List.set, ev, nth, List.nil_append, List.cons_append, md, Nat.reducePow, Nat.reduceAdd, Nat.reduceMul]
          refine RW.tail' (R0 := fun _ v m' => ∃ e, RowO 3 (iv ((srch (onceE L) (F ++ G)).map Prod.fst)) v e ∧ m' = (some b0, .cells #[vf, vg] 61 (0, 0)) :: e :: (e3 :: e7 :: (M ++ m0))) (B := fun V => (V 7).2) rfl rfl rfl rfl (fun _ => rfl) (fun V hV => by
            obtain ⟨e7', hr7', hm7'⟩ := hV 7 (by decide) _ rfl
            rw [hm7']
            refine Chg_call rfl Try.call27 fun w hw => ?_
            refine (reachI_spec gb _ (F ++ G) _ (by omega) (by rw [List.length_append]; omega) w (hM.facts (Has.dropN hw 4)) (RowO.rd hw 1 rfl hr7'.o)).mono ?_
            rintro e1 w' ⟨v, mi, rfl, ⟨e, hr, rfl⟩, hh⟩
            refine ⟨_, _, rfl, ⟨e, hr, rfl⟩, ?_⟩
            have h2 := (hw.trans hh).perm (m' := e7' :: (some b0, .cells #[vf, vg] 61 (0, 0)) :: e :: (e3 :: e7 :: (M ++ m0))) ?_
            · exact h2.sub (.cons _ (List.Sublist.refl _))
            · exact (List.Perm.swap _ _ _).trans (List.Perm.cons _ (List.Perm.cons _ (List.perm_append_comm (l₁ := [_]))))) (fun _ _ _ _ _ h => h) (fun V hV v m' h => by obtain ⟨_, _, rfl⟩ := h; exact .cons_cons _ (List.nil_sublist _)) ?_
          dsimp only [put, List.set, ev, nth, List.nil_append, List.cons_append, md, Nat.reducePow, Nat.reduceAdd, Nat.reduceMul]
          refine RW.pure rfl rfl (fun _ => rfl) (fun V hV => det_assign) (fun V V' hV => by first | rfl | (dsimp only [ev, nth]; simp only [hV 8 (by decide)])) ?_
          dsimp only [put, List.set, ev, nth, List.nil_append, List.cons_append, md, Nat.reducePow, Nat.reduceAdd, Nat.reduceMul]
          refine RW.done (fun V => (V 8).2) rfl rfl (fun _ => rfl) (fun V hV => ?_)
          obtain ⟨bl1, hp1, hq1⟩ : IsSl _ _ _ (V 1).1 (V 1).2 := hV 1 _ rfl
          obtain ⟨e8, hr8, ht8⟩ := hV 8 _ rfl
          obtain ⟨v8, hv8⟩ : ∃ v, v = (V 8).1 := ⟨_, rfl⟩
          rw [← hv8] at hr8
          simp only [hp1, hq1, ← hv8, ht8, List.append_nil, flat_cons, flat_nil]
          try simp only [flat_nil, List.append_nil]
          try dsimp only [put, blk, flat_nil, List.append_nil, List.append, List.eraseIdx, List.set, ev, nth, List.nil_append, List.cons_append, md, Nat.reducePow, Nat.reduceAdd, Nat.reduceMul]
          clear hV ht8
          obtain ⟨hf1, hf2, hf3⟩ := more_facts (es := onceE L) F G
          have hAA := srch_again (onceE L) F
          have hlA := srch_len (onceE L) F
          have hlB := srch_len (onceE L) G
          have hlC := srch_len (onceE L) (F ++ G)
          rw [List.length_append] at hlC
          generalize (srch (onceE L) F).map Prod.fst = A at *
          generalize (srch (onceE L) G).map Prod.fst = B at *
          generalize (srch (onceE L) (F ++ G)).map Prod.fst = C at *
          have hlAB : (A ++ B).length ≤ 1000 := by rw [List.length_append]; omega
          refine WC_seq ?_
          refine WC_seq ?_
          refine WC_region ?_
          refine WL_det rfl (det_move) ?_
          dsimp only [put, List.take, List.drop, List.set, ev, nth, List.nil_append, List.cons_append, md, Nat.reducePow, Nat.reduceAdd, Nat.reduceMul]
          refine WL_det rfl (det_lenR Try.underlying43 rfl (fun w hw => RowO.rd hw 1 rfl hr8) (iv_len C)) ?_
          dsimp only [put, List.take, List.drop, List.set, ev, nth, List.nil_append, List.cons_append, md, Nat.reducePow, Nat.reduceAdd, Nat.reduceMul]
          refine WL_det rfl (det_move) ?_
          dsimp only [put, List.take, List.drop, List.set, ev, nth, List.nil_append, List.cons_append, md, Nat.reducePow, Nat.reduceAdd, Nat.reduceMul]
          refine WL_nil ?_
          refine WC_block ?_
          refine WC_loopS (ι := Nat) [64, 65, 66, 12, 67, 68, 69, 70, 71, 72, 73, 74, 75, 76, 6, 77] (fun k => [(63, vn .i64 (k))]) (fun k => []) (fun k => k ≤ C.length) (fun k => C.length - k) 0 ?_ ?_ ?_ ?_
          · rfl
          · rfl
          · exact Nat.zero_le _
          · rintro k g' hk
            dsimp only [setAll, setG, setM, List.set]
            refine WC_seq ?_
            refine WC_region ?_
            refine WL_det rfl (det_lss rfl rfl) ?_
            dsimp only [put, List.take, List.drop, List.set, ev, nth, List.nil_append, List.cons_append, md, Nat.reducePow, Nat.reduceAdd, Nat.reduceMul]
            refine WL_nil ?_
            refine WC_seq ?_
            refine WC_cond rfl (fun hc2 => ?_) (fun hc2 => ?_)
            · have hc2 := of_decide_eq_true hc2
              refine WC_skip ?_
              refine WC_seq ?_
              refine WC_block ?_
              refine WC_seq ?_
              refine WC_region ?_
              refine WL_det rfl (det_idxR Try.underlying43 Try.sizeOf3 rfl rfl (rfl) (by rw [iv_len]; omega) (fun w hw => RowO.rd hw 1 rfl hr8)) ?_
              dsimp only [put, List.take, List.drop, List.set, ev, nth, List.nil_append, List.cons_append, md, Nat.reducePow, Nat.reduceAdd, Nat.reduceMul]
              refine WL_det rfl (det_loadR Try.isAgg3 rfl (fun w hw => RowO.rd hw 1 rfl hr8) (iv_at C (by omega))) ?_
              dsimp only [put, List.take, List.drop, List.set, ev, nth, List.nil_append, List.cons_append, md, Nat.reducePow, Nat.reduceAdd, Nat.reduceMul]
              refine WL_det rfl (det_assign) ?_
              dsimp only [put, List.take, List.drop, List.set, ev, nth, List.nil_append, List.cons_append, md, Nat.reducePow, Nat.reduceAdd, Nat.reduceMul]
              refine WL_nil ?_
              refine WC_seq ?_
              by_cases hnA : C.getD k 0 ∈ A
              · refine WC_region ?_
                refine WL_det rfl (det_move) ?_
                dsimp only [put, List.take, List.drop, List.set, ev, nth, List.nil_append, List.cons_append, md, Nat.reducePow, Nat.reduceAdd, Nat.reduceMul]
                refine WL_det rfl (det_move) ?_
                dsimp only [put, List.take, List.drop, List.set, ev, nth, List.nil_append, List.cons_append, md, Nat.reducePow, Nat.reduceAdd, Nat.reduceMul]
                refine WL_rel rfl (Rel_call rfl Try.call26 (fun w hw => in_b A (C.getD k 0) v3 true (decide_eq_true hnA) (by omega) w (RowO.rd hw 2 rfl hr3))) ?_
                rintro _ _ ⟨rfl, rfl⟩
                dsimp only [put, List.append_nil, List.set, ev, nth, List.nil_append, List.cons_append, md, Nat.reducePow, Nat.reduceAdd, Nat.reduceMul]
                try simp only [List.append_nil]
                refine WL_det rfl (Det.bv false (det_not rfl) (rfl)) ?_
                dsimp only [put, List.take, List.drop, List.set, ev, nth, List.nil_append, List.cons_append, md, Nat.reducePow, Nat.reduceAdd, Nat.reduceMul]
                refine WL_det rfl (det_move) ?_
                dsimp only [put, List.take, List.drop, List.set, ev, nth, List.nil_append, List.cons_append, md, Nat.reducePow, Nat.reduceAdd, Nat.reduceMul]
                refine WL_skipG ?_ ?_
                · rfl
                dsimp only [put, List.take, List.drop, List.set, ev, nth, List.nil_append, List.cons_append, md, Nat.reducePow, Nat.reduceAdd, Nat.reduceMul]
                refine WL_skipG ?_ ?_
                · rfl
                dsimp only [put, List.take, List.drop, List.set, ev, nth, List.nil_append, List.cons_append, md, Nat.reducePow, Nat.reduceAdd, Nat.reduceMul]
                refine WL_skipG ?_ ?_
                · rfl
                dsimp only [put, List.take, List.drop, List.set, ev, nth, List.nil_append, List.cons_append, md, Nat.reducePow, Nat.reduceAdd, Nat.reduceMul]
                refine WL_skipG ?_ ?_
                · rfl
                dsimp only [put, List.take, List.drop, List.set, ev, nth, List.nil_append, List.cons_append, md, Nat.reducePow, Nat.reduceAdd, Nat.reduceMul]
                refine WL_det rfl (det_pick_false rfl) ?_
                dsimp only [put, List.take, List.drop, List.set, ev, nth, List.nil_append, List.cons_append, md, Nat.reducePow, Nat.reduceAdd, Nat.reduceMul]
                refine WL_nil ?_
                refine WC_cond_false rfl ?_
                refine WC_skip ?_
                refine WC_region ?_
                refine WL_det rfl (det_addi (q := 1) rfl rfl (by omega)) ?_
                dsimp only [put, List.take, List.drop, List.set, ev, nth, List.nil_append, List.cons_append, md, Nat.reducePow, Nat.reduceAdd, Nat.reduceMul]
                refine WL_det rfl (det_move) ?_
                dsimp only [put, List.take, List.drop, List.set, ev, nth, List.nil_append, List.cons_append, md, Nat.reducePow, Nat.reduceAdd, Nat.reduceMul]
                refine WL_nil ?_
                refine ⟨k + 1, ?_, ?_, ?_, ?_⟩
                · rfl
                · rfl
                · omega
                · omega
              · refine WC_region ?_
                refine WL_det rfl (det_move) ?_
                dsimp only [put, List.take, List.drop, List.set, ev, nth, List.nil_append, List.cons_append, md, Nat.reducePow, Nat.reduceAdd, Nat.reduceMul]
                refine WL_det rfl (det_move) ?_
                dsimp only [put, List.take, List.drop, List.set, ev, nth, List.nil_append, List.cons_append, md, Nat.reducePow, Nat.reduceAdd, Nat.reduceMul]
                refine WL_rel rfl (Rel_call rfl Try.call26 (fun w hw => in_b A (C.getD k 0) v3 false (decide_eq_false hnA) (by omega) w (RowO.rd hw 2 rfl hr3))) ?_
                rintro _ _ ⟨rfl, rfl⟩
                dsimp only [put, List.append_nil, List.set, ev, nth, List.nil_append, List.cons_append, md, Nat.reducePow, Nat.reduceAdd, Nat.reduceMul]
                try simp only [List.append_nil]
                refine WL_det rfl (Det.bv true (det_not rfl) (rfl)) ?_
                dsimp only [put, List.take, List.drop, List.set, ev, nth, List.nil_append, List.cons_append, md, Nat.reducePow, Nat.reduceAdd, Nat.reduceMul]
                refine WL_det rfl (det_move) ?_
                dsimp only [put, List.take, List.drop, List.set, ev, nth, List.nil_append, List.cons_append, md, Nat.reducePow, Nat.reduceAdd, Nat.reduceMul]
                refine WL_detG rfl (det_move) ?_
                dsimp only [put, List.take, List.drop, List.set, ev, nth, List.nil_append, List.cons_append, md, Nat.reducePow, Nat.reduceAdd, Nat.reduceMul]
                refine WL_detG rfl (det_move) ?_
                dsimp only [put, List.take, List.drop, List.set, ev, nth, List.nil_append, List.cons_append, md, Nat.reducePow, Nat.reduceAdd, Nat.reduceMul]
                refine WL_relG rfl (Rel_call rfl Try.call26 (fun w hw => in_b B (C.getD k 0) v7 true (decide_eq_true ((hf1 _ (getD_memI (by omega))).resolve_left hnA)) (by omega) w (RowO.rd hw 3 rfl hr7))) ?_
                rintro _ _ ⟨rfl, rfl⟩
                dsimp only [put, List.append_nil, List.set, ev, nth, List.nil_append, List.cons_append, md, Nat.reducePow, Nat.reduceAdd, Nat.reduceMul]
                try simp only [List.append_nil]
                refine WL_detG rfl (Det.bv false (det_not rfl) (rfl)) ?_
                dsimp only [put, List.take, List.drop, List.set, ev, nth, List.nil_append, List.cons_append, md, Nat.reducePow, Nat.reduceAdd, Nat.reduceMul]
                refine WL_det rfl (det_pick_true rfl) ?_
                dsimp only [put, List.take, List.drop, List.set, ev, nth, List.nil_append, List.cons_append, md, Nat.reducePow, Nat.reduceAdd, Nat.reduceMul]
                refine WL_nil ?_
                refine WC_cond_false rfl ?_
                refine WC_skip ?_
                refine WC_region ?_
                refine WL_det rfl (det_addi (q := 1) rfl rfl (by omega)) ?_
                dsimp only [put, List.take, List.drop, List.set, ev, nth, List.nil_append, List.cons_append, md, Nat.reducePow, Nat.reduceAdd, Nat.reduceMul]
                refine WL_det rfl (det_move) ?_
                dsimp only [put, List.take, List.drop, List.set, ev, nth, List.nil_append, List.cons_append, md, Nat.reducePow, Nat.reduceAdd, Nat.reduceMul]
                refine WL_nil ?_
                refine ⟨k + 1, ?_, ?_, ?_, ?_⟩
                · rfl
                · rfl
                · omega
                · omega
            · have hc2 := of_decide_eq_false hc2
              obtain rfl : k = C.length := by omega
              refine WC_exit ?_
              refine inB_same ?_
              refine WC_seq ?_
              refine WC_seq ?_
              refine WC_region ?_
              refine WL_relAt 4 rfl (rel_lit0 Try.underlying43 Try.sizeOf3) ?_
              rintro _ _ ⟨b4, rfl, rfl⟩
              dsimp only [put, List.take, List.drop, List.set, ev, nth, List.nil_append, List.cons_append, md, Nat.reducePow, Nat.reduceAdd, Nat.reduceMul]
              refine WL_det rfl (det_move) ?_
              dsimp only [put, List.take, List.drop, List.set, ev, nth, List.nil_append, List.cons_append, md, Nat.reducePow, Nat.reduceAdd, Nat.reduceMul]
              refine WL_chg rfl (chg_appendVL 4 rfl (RowV.none0 3 (fun i => ([] : List Value).getD i undef) _) rfl rfl (fun w hw => RowO.rd hw 2 rfl hr3) (iv_one A) Try.underlying43 ei3 rfl (by rw [iv_len]; omega) (by decide)) ?_
              rintro v80 _ ⟨e80, hr80, rfl⟩
              dsimp only [put, List.eraseIdx, List.set, ev, nth, List.nil_append, List.cons_append, md, Nat.reducePow, Nat.reduceAdd, Nat.reduceMul]
              have hr80 : RowL 3 (iv A) v80 e80 := @RowL.app _ [] _ _ _ hr80
              refine WL_det rfl (det_move) ?_
              dsimp only [put, List.take, List.drop, List.set, ev, nth, List.nil_append, List.cons_append, md, Nat.reducePow, Nat.reduceAdd, Nat.reduceMul]
              refine WL_chg rfl (chg_appendVL 4 rfl (hr80) rfl rfl (fun w hw => RowO.rd hw 3 rfl hr7) (iv_one B) Try.underlying43 ei3 rfl (by rw [iv_len, iv_len]; omega) (by decide)) ?_
              rintro v82 _ ⟨e82, hr82, rfl⟩
              dsimp only [put, List.eraseIdx, List.set, ev, nth, List.nil_append, List.cons_append, md, Nat.reducePow, Nat.reduceAdd, Nat.reduceMul]
              have hr82 : RowO 3 (iv (A ++ B)) v82 e82 := by rw [iv_app]; exact (RowL.app hr82).o
              refine WL_det rfl (det_lenR Try.underlying43 rfl (fun w hw => RowO.rd hw 4 rfl hr82) (iv_len (A ++ B))) ?_
              dsimp only [put, List.take, List.drop, List.set, ev, nth, List.nil_append, List.cons_append, md, Nat.reducePow, Nat.reduceAdd, Nat.reduceMul]
              refine WL_det rfl (det_move) ?_
              dsimp only [put, List.take, List.drop, List.set, ev, nth, List.nil_append, List.cons_append, md, Nat.reducePow, Nat.reduceAdd, Nat.reduceMul]
              refine WL_nil ?_
              refine WC_block ?_
              refine WC_loopS (ι := Nat) [85, 86, 87, 14, 88, 89, 90, 91, 6, 92] (fun k => [(84, vn .i64 (k))]) (fun k => []) (fun k => k ≤ (A ++ B).length) (fun k => (A ++ B).length - k) 0 ?_ ?_ ?_ ?_
              · rfl
              · rfl
              · exact Nat.zero_le _
              · rintro k g' hk
                dsimp only [setAll, setG, setM, List.set]
                refine WC_seq ?_
                refine WC_region ?_
                refine WL_det rfl (det_lss rfl rfl) ?_
                dsimp only [put, List.take, List.drop, List.set, ev, nth, List.nil_append, List.cons_append, md, Nat.reducePow, Nat.reduceAdd, Nat.reduceMul]
                refine WL_nil ?_
                refine WC_seq ?_
                refine WC_cond rfl (fun hc4 => ?_) (fun hc4 => ?_)
                · have hc4 := of_decide_eq_true hc4
                  refine WC_skip ?_
                  refine WC_seq ?_
                  refine WC_block ?_
                  refine WC_seq ?_
                  refine WC_region ?_
                  refine WL_det rfl (det_idxR Try.underlying43 Try.sizeOf3 rfl rfl (rfl) (by rw [iv_len]; omega) (fun w hw => RowO.rd hw 4 rfl hr82)) ?_
                  dsimp only [put, List.take, List.drop, List.set, ev, nth, List.nil_append, List.cons_append, md, Nat.reducePow, Nat.reduceAdd, Nat.reduceMul]
                  refine WL_det rfl (det_loadR Try.isAgg3 rfl (fun w hw => RowO.rd hw 4 rfl hr82) (iv_at (A ++ B) (by omega))) ?_
                  dsimp only [put, List.take, List.drop, List.set, ev, nth, List.nil_append, List.cons_append, md, Nat.reducePow, Nat.reduceAdd, Nat.reduceMul]
                  refine WL_det rfl (det_assign) ?_
                  dsimp only [put, List.take, List.drop, List.set, ev, nth, List.nil_append, List.cons_append, md, Nat.reducePow, Nat.reduceAdd, Nat.reduceMul]
                  refine WL_nil ?_
                  refine WC_seq ?_
                  refine WC_region ?_
                  refine WL_det rfl (det_move) ?_
                  dsimp only [put, List.take, List.drop, List.set, ev, nth, List.nil_append, List.cons_append, md, Nat.reducePow, Nat.reduceAdd, Nat.reduceMul]
                  refine WL_det rfl (det_move) ?_
                  dsimp only [put, List.take, List.drop, List.set, ev, nth, List.nil_append, List.cons_append, md, Nat.reducePow, Nat.reduceAdd, Nat.reduceMul]
                  refine WL_rel rfl (Rel_call rfl Try.call26 (fun w hw => in_b C ((A ++ B).getD k 0) v8 true (decide_eq_true (hf2 _ (getD_memI (by omega)))) (by omega) w (RowO.rd hw 1 rfl hr8))) ?_
                  rintro _ _ ⟨rfl, rfl⟩
                  dsimp only [put, List.append_nil, List.set, ev, nth, List.nil_append, List.cons_append, md, Nat.reducePow, Nat.reduceAdd, Nat.reduceMul]
                  try simp only [List.append_nil]
                  refine WL_det rfl (Det.bv false (det_not rfl) (rfl)) ?_
                  dsimp only [put, List.take, List.drop, List.set, ev, nth, List.nil_append, List.cons_append, md, Nat.reducePow, Nat.reduceAdd, Nat.reduceMul]
                  refine WL_nil ?_
                  refine WC_cond_false rfl ?_
                  refine WC_skip ?_
                  refine WC_region ?_
                  refine WL_det rfl (det_addi (q := 1) rfl rfl (by omega)) ?_
                  dsimp only [put, List.take, List.drop, List.set, ev, nth, List.nil_append, List.cons_append, md, Nat.reducePow, Nat.reduceAdd, Nat.reduceMul]
                  refine WL_det rfl (det_move) ?_
                  dsimp only [put, List.take, List.drop, List.set, ev, nth, List.nil_append, List.cons_append, md, Nat.reducePow, Nat.reduceAdd, Nat.reduceMul]
                  refine WL_nil ?_
                  refine ⟨k + 1, ?_, ?_, ?_, ?_⟩
                  · rfl
                  · rfl
                  · omega
                  · omega
                · have hc4 := of_decide_eq_false hc4
                  obtain rfl : k = (A ++ B).length := by omega
                  refine WC_exit ?_
                  refine inB_same ?_
                  refine WC_seq ?_
                  refine WC_seq ?_
                  refine WC_region ?_
                  refine WL_det rfl (det_move) ?_
                  dsimp only [put, List.take, List.drop, List.set, ev, nth, List.nil_append, List.cons_append, md, Nat.reducePow, Nat.reduceAdd, Nat.reduceMul]
                  refine WL_det rfl (det_move) ?_
                  dsimp only [put, List.take, List.drop, List.set, ev, nth, List.nil_append, List.cons_append, md, Nat.reducePow, Nat.reduceAdd, Nat.reduceMul]
                  refine WL_relAt 5 rfl (Rel_call rfl Try.call27 (fun w hw => reachI_spec gb _ A v3 (by omega) (by omega) w (hM.facts (Has.dropN hw 5)) (RowO.rd hw 2 rfl hr3))) ?_
                  rintro v95 _ ⟨e95, h95, rfl⟩
                  rw [hAA] at h95
                  dsimp only [put, List.append_nil, List.take, List.drop, List.set, ev, nth, List.nil_append, List.cons_append, md, Nat.reducePow, Nat.reduceAdd, Nat.reduceMul]
                  try simp only [List.append_nil]
                  refine WL_det rfl (det_move) ?_
                  dsimp only [put, List.take, List.drop, List.set, ev, nth, List.nil_append, List.cons_append, md, Nat.reducePow, Nat.reduceAdd, Nat.reduceMul]
                  refine WL_rel rfl (Rel_call rfl Try.call21 (fun w hw => ints_same A v95 v3 (by omega) w (RdL.z (RowO.rd hw 5 rfl h95)) (RdL.z (RowO.rd hw 2 rfl hr3)))) ?_
                  rintro _ _ ⟨rfl, rfl⟩
                  dsimp only [put, List.append_nil, List.set, ev, nth, List.nil_append, List.cons_append, md, Nat.reducePow, Nat.reduceAdd, Nat.reduceMul]
                  try simp only [List.append_nil]
                  refine WL_det rfl (Det.bv false (det_not rfl) (rfl)) ?_
                  dsimp only [put, List.take, List.drop, List.set, ev, nth, List.nil_append, List.cons_append, md, Nat.reducePow, Nat.reduceAdd, Nat.reduceMul]
                  refine WL_nil ?_
                  refine WC.forget (.cons_cons _ (.cons _ (.cons_cons _ (.cons _ (.cons _ (.cons _ (List.Sublist.refl _))))))) ?_
                  refine WC_cond_false rfl ?_
                  refine WC_skip ?_
                  refine WC_seq ?_
                  refine WC_seq ?_
                  refine WC_region ?_
                  refine WL_det rfl (det_move) ?_
                  dsimp only [put, List.take, List.drop, List.set, ev, nth, List.nil_append, List.cons_append, md, Nat.reducePow, Nat.reduceAdd, Nat.reduceMul]
                  refine WL_det rfl (det_lenP Try.underlying52 rfl (fun w hw => RdP.far hw hL2)) ?_
                  dsimp only [put, List.take, List.drop, List.set, ev, nth, List.nil_append, List.cons_append, md, Nat.reducePow, Nat.reduceAdd, Nat.reduceMul]
                  refine WL_det rfl (det_move) ?_
                  dsimp only [put, List.take, List.drop, List.set, ev, nth, List.nil_append, List.cons_append, md, Nat.reducePow, Nat.reduceAdd, Nat.reduceMul]
                  refine WL_nil ?_
                  refine WC_block ?_
                  refine WC_loopF (ι := Nat × Mem) [102, 103, 104, 16, 105, 106, 107, 108, 109, 110, 111, 6, 112] (fun x => [(101, vn .i64 (x.1))]) (fun x => (some b0, .cells #[vf, vg] 61 (0, 0)) :: e3 :: (x.2 ++ m0)) (fun x => x.1 ≤ L2.length ∧ GR intK 3 103 gb (addAll (onceE L) (L2.take x.1)) x.2) (fun x => L2.length - x.1) (0, M) ?_ ?_ ?_ ?_
                  · rfl
                  · rfl
                  · exact ⟨Nat.zero_le _, hM⟩
                  · rintro ⟨k, M⟩ g' ⟨hk, hM⟩
                    dsimp only [setAll, setG, setM, List.set]
                    dsimp only at hk hM
                    refine WC_seq ?_
                    refine WC_region ?_
                    refine WL_det rfl (det_lss rfl rfl) ?_
                    dsimp only [put, List.take, List.drop, List.set, ev, nth, List.nil_append, List.cons_append, md, Nat.reducePow, Nat.reduceAdd, Nat.reduceMul]
                    refine WL_nil ?_
                    refine WC_seq ?_
                    refine WC_cond rfl (fun hc7 => ?_) (fun hc7 => ?_)
                    · have hc7 := of_decide_eq_true hc7
                      refine WC_skip ?_
                      refine WC_seq ?_
                      refine WC_block ?_
                      refine WC_seq ?_
                      refine WC_region ?_
                      refine WL_det rfl (det_idxP Try.underlying52 Try.sizeOf59 rfl rfl (rfl) (by omega) (fun w hw => RdP.far hw hL2)) ?_
                      dsimp only [put, List.take, List.drop, List.set, ev, nth, List.nil_append, List.cons_append, md, Nat.reducePow, Nat.reduceAdd, Nat.reduceMul]
                      refine WL_det rfl (det_loadP Try.underlying59 rfl i59 rfl (fun w hw => RdP.far hw hL2) (by omega)) ?_
                      dsimp only [put, List.take, List.drop, List.set, ev, nth, List.nil_append, List.cons_append, md, Nat.reducePow, Nat.reduceAdd, Nat.reduceMul]
                      refine WL_relAt 2 rfl (rel_alloc Try.zeroValue59 rfl) ?_
                      rintro _ _ ⟨b2, rfl, rfl⟩
                      dsimp only [put, List.take, List.drop, List.set, ev, nth, List.nil_append, List.cons_append, md, Nat.reducePow, Nat.reduceAdd, Nat.reduceMul]
                      refine WL_chg rfl (chg_storeWn 2 _ rfl rfl rfl Try.sizeOf59 rfl rfl rfl (pk_one _)) ?_
                      rintro _ _ rfl
                      dsimp only [put, List.take, List.drop, List.set, ev, nth, List.nil_append, List.cons_append, md, Nat.reducePow, Nat.reduceAdd, Nat.reduceMul]
                      refine WL_nil ?_
                      refine WC_seq ?_
                      refine WC_region ?_
                      refine WL_det rfl (det_move) ?_
                      dsimp only [put, List.take, List.drop, List.set, ev, nth, List.nil_append, List.cons_append, md, Nat.reducePow, Nat.reduceAdd, Nat.reduceMul]
                      refine WL_det rfl (det_idxA (j := 0) Try.underlying59 Try.sizeOf3 rfl rfl (rfl) (by omega)) ?_
                      dsimp only [put, List.take, List.drop, List.set, ev, nth, List.nil_append, List.cons_append, md, Nat.reducePow, Nat.reduceAdd, Nat.reduceMul]
                      refine WL_det rfl (det_load 2 Try.isAgg3 rfl rfl rfl) ?_
                      dsimp only [put, List.take, List.drop, List.set, ev, nth, List.nil_append, List.cons_append, md, Nat.reducePow, Nat.reduceAdd, Nat.reduceMul]
                      refine WL_det rfl (det_idxA (j := 1) Try.underlying59 Try.sizeOf3 rfl rfl (rfl) (by omega)) ?_
                      dsimp only [put, List.take, List.drop, List.set, ev, nth, List.nil_append, List.cons_append, md, Nat.reducePow, Nat.reduceAdd, Nat.reduceMul]
                      refine WL_det rfl (det_load 2 Try.isAgg3 rfl rfl rfl) ?_
                      dsimp only [put, List.take, List.drop, List.set, ev, nth, List.nil_append, List.cons_append, md, Nat.reducePow, Nat.reduceAdd, Nat.reduceMul]
                      refine WL_chg rfl (Chg_callT [_, _, _] _ _ rfl Try.call28 rfl (fun w mm hw => edgeGI hM (by have := addAll_len (L2.take k) (onceE L); rw [List.length_take] at this; omega) _ _ w mm hw)) ?_
                      rintro _ _ ⟨M1, ⟨rfl, hM1⟩, rfl⟩
                      dsimp only [put, setM, List.zip, List.zipWith, List.take, List.drop, List.append_nil, List.set, ev, nth, List.nil_append, List.cons_append, md, Nat.reducePow, Nat.reduceAdd, Nat.reduceMul]
                      refine WL_det rfl (Det.bv false (det_neq (q := 0) rfl rfl) (by decide)) ?_
                      dsimp only [put, List.take, List.drop, List.set, ev, nth, List.nil_append, List.cons_append, md, Nat.reducePow, Nat.reduceAdd, Nat.reduceMul]
                      refine WL_nil ?_
                      refine WC.forget (.cons_cons _ (.cons_cons _ (.cons _ (List.Sublist.refl _)))) ?_
                      refine WC_cond_false rfl ?_
                      refine WC_skip ?_
                      refine WC_region ?_
                      refine WL_det rfl (det_addi (q := 1) rfl rfl (by omega)) ?_
                      dsimp only [put, List.take, List.drop, List.set, ev, nth, List.nil_append, List.cons_append, md, Nat.reducePow, Nat.reduceAdd, Nat.reduceMul]
                      refine WL_det rfl (det_move) ?_
                      dsimp only [put, List.take, List.drop, List.set, ev, nth, List.nil_append, List.cons_append, md, Nat.reducePow, Nat.reduceAdd, Nat.reduceMul]
                      refine WL_nil ?_
                      refine ⟨(k + 1, M1), ?_, ?_, ?_, ?_⟩
                      · rfl
                      · rfl
                      · exact ⟨by dsimp only; omega, by rw [addAll_take _ (by omega)]; exact hM1⟩
                      · dsimp only; omega
                    · have hc7 := of_decide_eq_false hc7
                      obtain rfl : k = L2.length := by omega
                      rw [List.take_length] at hM
                      refine WC_exit ?_
                      refine inB_same ?_
                      refine WC_seq ?_
                      refine WC_region ?_
                      refine WL_det rfl (det_move) ?_
                      dsimp only [put, List.take, List.drop, List.set, ev, nth, List.nil_append, List.cons_append, md, Nat.reducePow, Nat.reduceAdd, Nat.reduceMul]
                      refine WL_det rfl (det_idxA (j := 0) Try.underlying61 Try.sizeOf43 rfl rfl (rfl) (by omega)) ?_
                      dsimp only [put, List.take, List.drop, List.set, ev, nth, List.nil_append, List.cons_append, md, Nat.reducePow, Nat.reduceAdd, Nat.reduceMul]
                      refine WL_det rfl (det_load 0 Try.isAgg43 rfl rfl rfl) ?_
                      dsimp only [put, List.take, List.drop, List.set, ev, nth, List.nil_append, List.cons_append, md, Nat.reducePow, Nat.reduceAdd, Nat.reduceMul]
                      refine WL_relAt 2 rfl (Rel_call rfl Try.call27 (fun w hw => reachI_spec gb _ F vf (by have := addAll_len L2 (onceE L); omega) (by omega) w (hM.facts (Has.dropN hw 2)) (RdL.far hw hF))) ?_
                      rintro v17 _ ⟨e17, h17, rfl⟩
                      dsimp only [put, List.append_nil, List.take, List.drop, List.set, ev, nth, List.nil_append, List.cons_append, md, Nat.reducePow, Nat.reduceAdd, Nat.reduceMul]
                      try simp only [List.append_nil]
                      refine WL_det rfl (det_assign) ?_
                      dsimp only [put, List.take, List.drop, List.set, ev, nth, List.nil_append, List.cons_append, md, Nat.reducePow, Nat.reduceAdd, Nat.reduceMul]
                      refine WL_nil ?_
                      refine WC_seq ?_
                      refine WC_seq ?_
                      refine WC_region ?_
                      refine WL_det rfl (det_move) ?_
                      dsimp only [put, List.take, List.drop, List.set, ev, nth, List.nil_append, List.cons_append, md, Nat.reducePow, Nat.reduceAdd, Nat.reduceMul]
                      refine WL_det rfl (det_lenR Try.underlying43 rfl (fun w hw => RowO.rd hw 1 rfl hr3) (iv_len A)) ?_
                      dsimp only [put, List.take, List.drop, List.set, ev, nth, List.nil_append, List.cons_append, md, Nat.reducePow, Nat.reduceAdd, Nat.reduceMul]
                      refine WL_det rfl (det_move) ?_
                      dsimp only [put, List.take, List.drop, List.set, ev, nth, List.nil_append, List.cons_append, md, Nat.reducePow, Nat.reduceAdd, Nat.reduceMul]
                      refine WL_nil ?_
                      refine WC_block ?_
                      refine WC_loopS (ι := Nat) [120, 121, 122, 19, 123, 124, 125, 126, 6, 127] (fun k => [(119, vn .i64 (k))]) (fun k => []) (fun k => k ≤ A.length) (fun k => A.length - k) 0 ?_ ?_ ?_ ?_
                      · rfl
                      · rfl
                      · exact Nat.zero_le _
                      · rintro k g' hk
                        dsimp only [setAll, setG, setM, List.set]
                        refine WC_seq ?_
                        refine WC_region ?_
                        refine WL_det rfl (det_lss rfl rfl) ?_
                        dsimp only [put, List.take, List.drop, List.set, ev, nth, List.nil_append, List.cons_append, md, Nat.reducePow, Nat.reduceAdd, Nat.reduceMul]
                        refine WL_nil ?_
                        refine WC_seq ?_
                        refine WC_cond rfl (fun hc9 => ?_) (fun hc9 => ?_)
                        · have hc9 := of_decide_eq_true hc9
                          refine WC_skip ?_
                          refine WC_seq ?_
                          refine WC_block ?_
                          refine WC_seq ?_
                          refine WC_region ?_
                          refine WL_det rfl (det_idxR Try.underlying43 Try.sizeOf3 rfl rfl (rfl) (by rw [iv_len]; omega) (fun w hw => RowO.rd hw 1 rfl hr3)) ?_
                          dsimp only [put, List.take, List.drop, List.set, ev, nth, List.nil_append, List.cons_append, md, Nat.reducePow, Nat.reduceAdd, Nat.reduceMul]
                          refine WL_det rfl (det_loadR Try.isAgg3 rfl (fun w hw => RowO.rd hw 1 rfl hr3) (iv_at A (by omega))) ?_
                          dsimp only [put, List.take, List.drop, List.set, ev, nth, List.nil_append, List.cons_append, md, Nat.reducePow, Nat.reduceAdd, Nat.reduceMul]
                          refine WL_det rfl (det_assign) ?_
                          dsimp only [put, List.take, List.drop, List.set, ev, nth, List.nil_append, List.cons_append, md, Nat.reducePow, Nat.reduceAdd, Nat.reduceMul]
                          refine WL_nil ?_
                          refine WC_seq ?_
                          refine WC_region ?_
                          refine WL_det rfl (det_move) ?_
                          dsimp only [put, List.take, List.drop, List.set, ev, nth, List.nil_append, List.cons_append, md, Nat.reducePow, Nat.reduceAdd, Nat.reduceMul]
                          refine WL_det rfl (det_move) ?_
                          dsimp only [put, List.take, List.drop, List.set, ev, nth, List.nil_append, List.cons_append, md, Nat.reducePow, Nat.reduceAdd, Nat.reduceMul]
                          refine WL_rel rfl (Rel_call rfl Try.call26 (fun w hw => in_b _ (A.getD k 0) v17 true (decide_eq_true (hf3 L2 _ (getD_memI (by omega)))) (by have := srch_len (addAll (onceE L) L2) F; have := addAll_len L2 (onceE L); omega) w (RowO.rd hw 2 rfl h17))) ?_
                          rintro _ _ ⟨rfl, rfl⟩
                          dsimp only [put, List.append_nil, List.set, ev, nth, List.nil_append, List.cons_append, md, Nat.reducePow, Nat.reduceAdd, Nat.reduceMul]
                          try simp only [List.append_nil]
                          refine WL_det rfl (Det.bv false (det_not rfl) (rfl)) ?_
                          dsimp only [put, List.take, List.drop, List.set, ev, nth, List.nil_append, List.cons_append, md, Nat.reducePow, Nat.reduceAdd, Nat.reduceMul]
                          refine WL_nil ?_
                          refine WC_cond_false rfl ?_
                          refine WC_skip ?_
                          refine WC_region ?_
                          refine WL_det rfl (det_addi (q := 1) rfl rfl (by omega)) ?_
                          dsimp only [put, List.take, List.drop, List.set, ev, nth, List.nil_append, List.cons_append, md, Nat.reducePow, Nat.reduceAdd, Nat.reduceMul]
                          refine WL_det rfl (det_move) ?_
                          dsimp only [put, List.take, List.drop, List.set, ev, nth, List.nil_append, List.cons_append, md, Nat.reducePow, Nat.reduceAdd, Nat.reduceMul]
                          refine WL_nil ?_
                          refine ⟨k + 1, ?_, ?_, ?_, ?_⟩
                          · rfl
                          · rfl
                          · omega
                          · omega
                        · have hc9 := of_decide_eq_false hc9
                          obtain rfl : k = A.length := by omega
                          refine WC_exit ?_
                          refine inB_same ?_
                          refine WC_seq ?_
                          refine WC_region ?_
                          refine WL_det rfl (det_assign) ?_
                          dsimp only [put, List.take, List.drop, List.set, ev, nth, List.nil_append, List.cons_append, md, Nat.reducePow, Nat.reduceAdd, Nat.reduceMul]
                          refine WL_nil ?_
                          refine WC_ret ?_
                          refine fin_tmp Try.results6 rfl ([]) (List.nil_sublist _) ?_
                          exact ⟨rfl, rfl⟩

end Go.Proofs.Ytocmlaloafmfkaa

set_option linter.unusedVariables false
set_option linter.unusedSectionVars false
set_option linter.unusedSimpArgs false
namespace Go.Proofs.Ytocmlaloafmfkaa
open Go.MW
open Go.ChangeShapes Go.WideShapes Go.ChangeAt Go.RowKit
theorem trod_slice_z {H : Type} {enc : TypeId × Value → H} {P : Program} {W : World} {base : Nat} {sp : Nat → Bool} {held : Bool} {t e : TypeId} {fuel : Nat} {cs : List Value} {x : DataW H × List MemPlace} (ht : P.underlying t = some (.slice e)) (he : P.underlying e = some (.int .i64)) (ce : P.cellsOf e = 1)
    (hf : DataW.trod enc P W base sp held fuel t cs = some x) : ∃ (v : Value) (F : List Int), cs = [v] ∧ RdL W (iv F) v := by
  rcases Go.Deep.open_slice ht hf with ⟨hcs, _⟩ | ⟨x, l, c, m, n, D, Pl, hcs, _, hl, hm, hmm, _, hx⟩
  · exact ⟨_, [], hcs, RdL.nil W⟩
  · have hlm : l ≤ m := by rw [hmm]; split <;> omega
    obtain ⟨b, off, spot⟩ := x
    have each : ∀ i, i < l → ∃ z : Int, W.cell? ((⟨b, off, spot⟩ : Addr).add i) = some (.int .i64 z) := by
      intro i hi
      obtain ⟨cs', h1, h2⟩ := hx i (by omega)
      obtain ⟨z, rfl, hz⟩ := el_int he _ _ _ h2
      rw [ce] at h1
      obtain ⟨_, hlen, hcell⟩ := World.cells?_some h1
      refine ⟨z 0, ?_⟩
      have := hcell 0 (by decide)
      rw [Go.Deep.add_add, Nat.mul_one, Nat.add_zero] at this
      rw [this]; simp
    obtain ⟨g, hg⟩ := Go.Deep.choose_lt (α := Int) each
    refine ⟨_, (List.range l).map g, hcs, ?_⟩
    have hlen : (iv ((List.range l).map g)).length = l := by simp [iv]
    by_cases h0 : l = 0
    · subst h0
      exact ⟨_, _, 0, 0, by rw [hlen], fun h => by omega, fun i hi => by omega⟩
    have hc := hg 0 (by omega)
    have hspot : spot = none := by simpa [Addr.add] using World.cell?_spot hc
    subst hspot
    refine ⟨_, c, b, off, by rw [hlen], fun _ => rfl, fun i hi => ?_⟩
    rw [hlen] at hi
    have h1 := hg i hi
    rw [Addr.add_lit] at h1
    rw [h1]
    simp [iv, hi]
theorem open_two {H : Type} {enc : TypeId × Value → H} {P : Program} {W : World} {b0 base : Nat} {sp : Nat → Bool} {held : Bool} {t q e : TypeId} {v : Value} {d : DataW H} {ps : List MemPlace} (ht : P.underlying t = some (.array 2 q)) (hq : P.underlying q = some (.slice e)) (he : P.underlying e = some (.int .i64)) (ce : P.cellsOf e = 1) (cq : P.cellsOf q = 1) (ct : P.cellsOf t = 2)
    (hval : Value.okWide P W .any b0 t v) (hd : DataW.Trod enc P W base sp held t v d ps) : ∃ (vf vg : Value) (F G : List Int), v = .agg #[vf, vg] ∧ RdL W (iv F) vf ∧ RdL W (iv G) vg := by
  obtain ⟨cs, rfl, hsz, _⟩ : ∃ cs, v = .agg cs ∧ cs.size = P.cellsOf t ∧ Row.okWide P W .any b0 t cs := by
    simpa [Value.okWide, ht] using hval
  obtain ⟨fuel, hf⟩ := hd
  obtain ⟨xs, m, _, _, _, hl, hel⟩ := DataW.trod_array ht hf
  rw [ct] at hsz
  have key : ∀ i, i < 2 → ∃ (v : Value) (F : List Int), cs[i]? = some v ∧ RdL W (iv F) v := by
    intro i hi
    have h := hel i hi
    obtain ⟨y, hy⟩ : ∃ y, xs[i]? = some y := ⟨xs[i], by simp [hl, hi]⟩
    rw [hy, cq, Nat.mul_one] at h
    obtain ⟨v, F, e1, h1⟩ := trod_slice_z hq he ce h
    refine ⟨v, F, ?_, h1⟩
    have e2 : ((List.drop i (Value.agg cs).cells.toList).take 1)[0]? = some v := by rw [e1]; rfl
    simpa [Value.cells] using e2
  obtain ⟨vf, F, h1, h2⟩ := key 0 (by decide)
  obtain ⟨vg, G, h3, h4⟩ := key 1 (by decide)
  refine ⟨vf, vg, F, G, ?_, h2, h4⟩
  congr 1
  apply Array.ext_getElem?
  intro i
  rcases i with _ | _ | i
  · rw [h1]; rfl
  · rw [h3]; rfl
  · rw [Array.getElem?_eq_none (by omega), Array.getElem?_eq_none (by simp)]

end Go.Proofs.Ytocmlaloafmfkaa
