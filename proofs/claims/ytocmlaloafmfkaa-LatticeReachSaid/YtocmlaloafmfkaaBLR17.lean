/- What the claim of this folder needs of its texts, put together by a program of this claim. Conditions: none. -/
import Derived.Test.YtocmlaloafmfkaaBLR16
set_option linter.unusedSectionVars false
set_option linter.unusedSimpArgs false
set_option linter.unusedVariables false
set_option linter.unusedVariables false
set_option linter.unusedSectionVars false
set_option linter.unusedSimpArgs false
namespace Go.Proofs.Ytocmlaloafmfkaa
open Go.MW
section
variable {α : Type} [DecidableEq α]
/-- The reference's step j, k edges seen. -/
def exR (es : List (α × α)) (F : List α) (j k : Nat) (a : α) : List (α × Int) := (succ (es.take k) a).foldl (insA (j : Int)) (stA es F j)
theorem exR_zero (es : List (α × α)) (F : List α) (j : Nat) (a : α) : exR es F j 0 a = stA es F j := rfl
theorem exR_step {es : List (α × α)} {F : List α} {j k : Nat} {a : α} (h : k < es.length) (d : α × α) : exR es F j (k + 1) a = if (es.getD k d).1 = a then insA (j : Int) (exR es F j k a) (es.getD k d).2 else exR es F j k a := by
  unfold exR
  rw [List.take_succ_eq_append_getElem h, succ_snoc, List.foldl_append, List.getD_eq_getElem?_getD, List.getElem?_eq_getElem h]
  dsimp only [Option.getD_some]
  split <;> rfl
theorem exR_all {es : List (α × α)} {F : List α} {j : Nat} {a : α} {i : Int} (h : (stA es F j)[j]? = some (a, i)) : exR es F j es.length a = stA es F (j + 1) := by
  unfold exR
  rw [List.take_length]
  show _ = expA es j (stA es F j)
  unfold expA
  rw [h]
theorem exR_pre (es : List (α × α)) (F : List α) (j k : Nat) (a : α) : stA es F j <+: exR es F j k a := fold_pre _ _ _
theorem exR_len {es : List (α × α)} {F : List α} {j : Nat} (k : Nat) {a : α} {i : Int} (h : (stA es F j)[j]? = some (a, i)) : (exR es F j k a).length ≤ bndA es F := by
  have h1 : exR es F j k a <+: stA es F (j + 1) := by
    rw [← exR_all h]
    unfold exR
    rw [List.take_length]
    have e : succ es a = succ (es.take k) a ++ succ (es.drop k) a := by
      unfold succ
      rw [← List.map_append, ← List.filter_append, List.take_append_drop]
    rw [e, List.foldl_append]
    exact fold_pre _ _ _
  exact Nat.le_trans h1.length_le (stA_len es F (j + 1))
def pathL (A : List (α × Int)) (to : α) : List α := if to ∈ A.map Prod.fst then pathA A ((A.map Prod.fst).idxOf to) else []
end
theorem RowL.one1 (t : TypeId) (b : Nat) (x : Value) : RowL t [x] (.slice (some ⟨b, 0, none⟩) 1 1) (some b, .cells #[x] t (0, 0)) :=
  .inr ⟨b, 1, #[x], rfl, rfl, Nat.le_refl _, by decide, rfl, fun i hi => by
    obtain rfl : i = 0 := by simp at hi; exact hi
    rfl⟩

set_option maxRecDepth 100000 in
set_option maxHeartbeats 4000000 in
theorem rsearch_spec (es : List (Int × Int)) (F : List Int) (ve vf : Value) (hes : es.length ≤ 200) (hF : F.length ≤ 400) (w : World) (he : RdP w es ve) (hf : RdL w (iv F) vf) :
    Calls Try.prog 31 [ve, vf].toArray w (Post w (fun v m => ∃ v1 v2 e1 e2, v = .tuple #[v1, v2] ∧ RowO 3 (iv ((srch es F).map Prod.fst)) v1 e1 ∧ RowO 3 (iv ((srch es F).map Prod.snd)) v2 e2 ∧ m = [e1, e2])) := by
  have hnl := nodes_len es
  have hb : bndA es F ≤ 1000 := by unfold bndA; omega
  refine calls_of_WC Try.func31 rfl ?_
  simp only [Try.ntmps31, List.length_cons, List.length_nil, Nat.reduceAdd, Nat.reduceSub, List.replicate, List.cons_append, List.nil_append]
  refine WC_seq ?_
  refine WC_region ?_
  refine WL_det rfl (det_assign) ?_
  dsimp only [put, List.set, ev, nth, List.nil_append, List.cons_append, md, Nat.reducePow, Nat.reduceAdd, Nat.reduceMul]
  refine WL_det rfl (det_assign) ?_
  dsimp only [put, List.set, ev, nth, List.nil_append, List.cons_append, md, Nat.reducePow, Nat.reduceAdd, Nat.reduceMul]
  refine WL_nil ?_
  refine WC_seq ?_
  refine WC_region ?_
  refine WL_det rfl (det_assign) ?_
  dsimp only [put, List.set, ev, nth, List.nil_append, List.cons_append, md, Nat.reducePow, Nat.reduceAdd, Nat.reduceMul]
  refine WL_nil ?_
  refine WC_seq ?_
  refine WC_region ?_
  refine WL_det rfl (det_assign) ?_
  dsimp only [put, List.set, ev, nth, List.nil_append, List.cons_append, md, Nat.reducePow, Nat.reduceAdd, Nat.reduceMul]
  refine WL_nil ?_
  refine WC_seq ?_
  refine WC_seq ?_
  refine WC_region ?_
  refine WL_det rfl (det_assign) ?_
  dsimp only [put, List.set, ev, nth, List.nil_append, List.cons_append, md, Nat.reducePow, Nat.reduceAdd, Nat.reduceMul]
  refine WL_nil ?_
  refine WC_block ?_
  refine WC.addNone (.cells #[] 3 (0, 0)) ?_
  dsimp only [List.cons_append, List.nil_append]
  refine WC.addNone (.cells #[] 3 (0, 0)) ?_
  dsimp only [List.cons_append, List.nil_append]
  refine WC_loopS (ι := Nat × Value × (Option Nat × Obj) × Value × (Option Nat × Obj)) [11, 12, 13, 14, 17, 18, 19, 20, 21, 22, 23, 24, 25, 26, 27, 28, 29, 30, 31, 32, 33, 15, 16] (fun x => [(8, vn .i64 (x.1)), (6, x.2.1), (7, x.2.2.2.1)]) (fun x => [(0, x.2.2.1), (1, x.2.2.2.2)]) (fun x => x.1 ≤ F.length ∧ RowO 3 (iv ((sdA F (x.1)).map Prod.fst)) x.2.1 x.2.2.1 ∧ RowO 3 (iv ((sdA F (x.1)).map Prod.snd)) x.2.2.2.1 x.2.2.2.2) (fun x => F.length - x.1) (0, .slice none 0 0, (none, .cells #[] 3 (0, 0)), .slice none 0 0, (none, .cells #[] 3 (0, 0))) ?_ ?_ ?_ ?_
  · rfl
  · rfl
  · exact ⟨Nat.zero_le _, RowO.nil _ _, RowO.nil _ _⟩
  · rintro ⟨k, v1, e1, v2, e2⟩ g' ⟨hk, h1, h2⟩
    dsimp only [setAll, setG, setM, List.set]
    dsimp only at hk h1 h2
    have hl := sdA_len F k
    refine WC_seq ?_
    refine WC_seq ?_
    refine WC_region ?_
    refine WL_det rfl (det_move) ?_
    dsimp only [put, List.set, ev, nth, List.nil_append, List.cons_append, md, Nat.reducePow, Nat.reduceAdd, Nat.reduceMul]
    refine WL_det rfl (det_move) ?_
    dsimp only [put, List.set, ev, nth, List.nil_append, List.cons_append, md, Nat.reducePow, Nat.reduceAdd, Nat.reduceMul]
    refine WL_det rfl (det_lenR Try.underlying43 rfl (fun w hw => RdL.far hw hf) (iv_len F)) ?_
    dsimp only [put, List.set, ev, nth, List.nil_append, List.cons_append, md, Nat.reducePow, Nat.reduceAdd, Nat.reduceMul]
    refine WL_det rfl (det_lss rfl rfl) ?_
    dsimp only [put, List.set, ev, nth, List.nil_append, List.cons_append, md, Nat.reducePow, Nat.reduceAdd, Nat.reduceMul]
    refine WL_nil ?_
    refine WC_cond rfl (fun hc0 => ?_) (fun hc0 => ?_)
    · have hc0 := of_decide_eq_true hc0
      refine WC_skip ?_
      refine WC_seq ?_
      refine WC_block ?_
      refine WC_seq ?_
      refine WC_region ?_
      refine WL_det rfl (det_move) ?_
      dsimp only [put, List.set, ev, nth, List.nil_append, List.cons_append, md, Nat.reducePow, Nat.reduceAdd, Nat.reduceMul]
      refine WL_det rfl (det_move) ?_
      dsimp only [put, List.set, ev, nth, List.nil_append, List.cons_append, md, Nat.reducePow, Nat.reduceAdd, Nat.reduceMul]
      refine WL_det rfl (det_move) ?_
      dsimp only [put, List.set, ev, nth, List.nil_append, List.cons_append, md, Nat.reducePow, Nat.reduceAdd, Nat.reduceMul]
      refine WL_det rfl (det_idxR Try.underlying43 Try.sizeOf3 rfl rfl (rfl) (by rw [iv_len]; omega) (fun w hw => RdL.far hw hf)) ?_
      dsimp only [put, List.set, ev, nth, List.nil_append, List.cons_append, md, Nat.reducePow, Nat.reduceAdd, Nat.reduceMul]
      refine WL_det rfl (det_loadR Try.isAgg3 rfl (fun w hw => RdL.far hw hf) (iv_at F (by omega))) ?_
      dsimp only [put, List.set, ev, nth, List.nil_append, List.cons_append, md, Nat.reducePow, Nat.reduceAdd, Nat.reduceMul]
      refine WL_rel rfl (Rel_call rfl Try.call26 (fun w hw => in_spec ((sdA F (k)).map Prod.fst) (F.getD k 0) v1 (by rw [List.length_map]; omega) w (RowO.rd hw 0 rfl h1))) ?_
      rintro _ _ ⟨rfl, rfl⟩
      dsimp only [put, List.append_nil, List.set, ev, nth, List.nil_append, List.cons_append, md, Nat.reducePow, Nat.reduceAdd, Nat.reduceMul]
      refine WL_det rfl (det_not rfl) ?_
      dsimp only [put, List.set, ev, nth, List.nil_append, List.cons_append, md, Nat.reducePow, Nat.reduceAdd, Nat.reduceMul]
      refine WL_nil ?_
      refine WC_cond rfl (fun hc1 => ?_) (fun hc1 => ?_)
      · have hx : (F.getD k 0) ∉ (sdA F (k)).map Prod.fst := by simpa using hc1
        have hS := sdA_step (F := F) hc0 0
        have e1x : (sdA F (k + 1)).map Prod.fst = (sdA F (k)).map Prod.fst ++ [(F.getD k 0)] := by rw [hS, insA_fst hx]
        have e2x : (sdA F (k + 1)).map Prod.snd = (sdA F (k)).map Prod.snd ++ [-1] := by rw [hS, insA_snd hx]
        refine WC_seq ?_
        refine WC_region ?_
        refine WL_det rfl (det_move) ?_
        dsimp only [put, List.set, ev, nth, List.nil_append, List.cons_append, md, Nat.reducePow, Nat.reduceAdd, Nat.reduceMul]
        refine WL_det rfl (det_move) ?_
        dsimp only [put, List.set, ev, nth, List.nil_append, List.cons_append, md, Nat.reducePow, Nat.reduceAdd, Nat.reduceMul]
        refine WL_det rfl (det_move) ?_
        dsimp only [put, List.set, ev, nth, List.nil_append, List.cons_append, md, Nat.reducePow, Nat.reduceAdd, Nat.reduceMul]
        refine WL_det rfl (det_idxR Try.underlying43 Try.sizeOf3 rfl rfl (rfl) (by rw [iv_len]; omega) (fun w hw => RdL.far hw hf)) ?_
        dsimp only [put, List.set, ev, nth, List.nil_append, List.cons_append, md, Nat.reducePow, Nat.reduceAdd, Nat.reduceMul]
        refine WL_det rfl (det_loadR Try.isAgg3 rfl (fun w hw => RdL.far hw hf) (iv_at F (by omega))) ?_
        dsimp only [put, List.set, ev, nth, List.nil_append, List.cons_append, md, Nat.reducePow, Nat.reduceAdd, Nat.reduceMul]
        refine WL_rel rfl (rel_lit1 Try.underlying43 Try.zeroValue3 Try.sizeOf3 rfl rfl) ?_
        rintro _ _ ⟨bl, rfl, rfl⟩
        dsimp only [put, List.set, ev, nth, List.nil_append, List.cons_append, md, Nat.reducePow, Nat.reduceAdd, Nat.reduceMul]
        refine WL_chg rfl (chg_appendO1 0 2 rfl (by decide) (h1) rfl rfl rfl rfl Try.underlying43 ei3 rfl (by rw [iv_len, List.length_map]; omega) (by decide)) ?_
        rintro v30 _ ⟨e30, hr30, rfl⟩
        dsimp only [put, List.eraseIdx, List.set, ev, nth, List.nil_append, List.cons_append, md, Nat.reducePow, Nat.reduceAdd, Nat.reduceMul]
        rw [iv_snoc] at hr30
        rw [← e1x] at hr30
        refine WL_det rfl (det_assign) ?_
        dsimp only [put, List.set, ev, nth, List.nil_append, List.cons_append, md, Nat.reducePow, Nat.reduceAdd, Nat.reduceMul]
        refine WL_nil ?_
        refine WC_region ?_
        refine WL_det rfl (det_move) ?_
        dsimp only [put, List.set, ev, nth, List.nil_append, List.cons_append, md, Nat.reducePow, Nat.reduceAdd, Nat.reduceMul]
        refine WL_rel rfl (rel_lit1 Try.underlying43 Try.zeroValue3 Try.sizeOf3 rfl rfl) ?_
        rintro _ _ ⟨bl, rfl, rfl⟩
        dsimp only [put, List.set, ev, nth, List.nil_append, List.cons_append, md, Nat.reducePow, Nat.reduceAdd, Nat.reduceMul]
        refine WL_chg rfl (chg_appendO1 1 2 rfl (by decide) (h2) rfl rfl rfl rfl Try.underlying43 ei3 rfl (by rw [iv_len, List.length_map]; omega) (by decide)) ?_
        rintro v33 _ ⟨e33, hr33, rfl⟩
        dsimp only [put, List.eraseIdx, List.set, ev, nth, List.nil_append, List.cons_append, md, Nat.reducePow, Nat.reduceAdd, Nat.reduceMul]
        rw [iv_snoc] at hr33
        rw [← e2x] at hr33
        refine WL_det rfl (det_assign) ?_
        dsimp only [put, List.set, ev, nth, List.nil_append, List.cons_append, md, Nat.reducePow, Nat.reduceAdd, Nat.reduceMul]
        refine WL_nil ?_
        refine WC_region ?_
        refine WL_det rfl (det_move) ?_
        dsimp only [put, List.set, ev, nth, List.nil_append, List.cons_append, md, Nat.reducePow, Nat.reduceAdd, Nat.reduceMul]
        refine WL_det rfl (det_addi (q := 1) rfl rfl (by omega)) ?_
        dsimp only [put, List.set, ev, nth, List.nil_append, List.cons_append, md, Nat.reducePow, Nat.reduceAdd, Nat.reduceMul]
        refine WL_det rfl (det_assign) ?_
        dsimp only [put, List.set, ev, nth, List.nil_append, List.cons_append, md, Nat.reducePow, Nat.reduceAdd, Nat.reduceMul]
        refine WL_nil ?_
        refine ⟨(k + 1, v30, e30, v33, e33), ?_, ?_, ?_, ?_⟩
        · rfl
        · rfl
        · exact ⟨by dsimp only; omega, hr30, hr33⟩
        · dsimp only; omega
      · have hx : (F.getD k 0) ∈ (sdA F (k)).map Prod.fst := by simpa using hc1
        have e0 : sdA F (k + 1) = sdA F k := by rw [sdA_step hc0 0, insA_old hx]
        rw [← e0] at h1 h2
        obtain ⟨v30, hq⟩ : ∃ v, v = v1 := ⟨_, rfl⟩
        subst hq
        obtain ⟨e30, hq⟩ : ∃ v, v = e1 := ⟨_, rfl⟩
        subst hq
        obtain ⟨v33, hq⟩ : ∃ v, v = v2 := ⟨_, rfl⟩
        subst hq
        obtain ⟨e33, hq⟩ : ∃ v, v = e2 := ⟨_, rfl⟩
        subst hq
        have hr30 := h1
        have hr33 := h2
        refine WC_skip ?_
        refine WC_region ?_
        refine WL_det rfl (det_move) ?_
        dsimp only [put, List.set, ev, nth, List.nil_append, List.cons_append, md, Nat.reducePow, Nat.reduceAdd, Nat.reduceMul]
        refine WL_det rfl (det_addi (q := 1) rfl rfl (by omega)) ?_
        dsimp only [put, List.set, ev, nth, List.nil_append, List.cons_append, md, Nat.reducePow, Nat.reduceAdd, Nat.reduceMul]
        refine WL_det rfl (det_assign) ?_
        dsimp only [put, List.set, ev, nth, List.nil_append, List.cons_append, md, Nat.reducePow, Nat.reduceAdd, Nat.reduceMul]
        refine WL_nil ?_
        refine ⟨(k + 1, v30, e30, v33, e33), ?_, ?_, ?_, ?_⟩
        · rfl
        · rfl
        · exact ⟨by dsimp only; omega, hr30, hr33⟩
        · dsimp only; omega
    · have hc0 := of_decide_eq_false hc0
      obtain rfl : k = F.length := by omega
      rw [sdA_all F es] at h1 h2
      refine WC_exit ?_
      refine inB_same ?_
      refine WC_seq ?_
      refine WC_seq ?_
      refine WC_region ?_
      refine WL_det rfl (det_assign) ?_
      dsimp only [put, List.set, ev, nth, List.nil_append, List.cons_append, md, Nat.reducePow, Nat.reduceAdd, Nat.reduceMul]
      refine WL_nil ?_
      refine WC_block ?_
      refine WC_loopS (ι := Nat × Value × (Option Nat × Obj) × Value × (Option Nat × Obj)) [34, 35, 36, 37, 10, 40, 41, 42, 43, 46, 47, 48, 49, 50, 51, 52, 53, 54, 55, 56, 57, 58, 59, 60, 61, 62, 63, 64, 65, 66, 67, 68, 69, 70, 71, 72, 73, 74, 75, 76, 77, 44, 45, 38, 39] (fun x => [(9, vn .i64 (x.1)), (6, x.2.1), (7, x.2.2.2.1)]) (fun x => [(0, x.2.2.1), (1, x.2.2.2.2)]) (fun x => x.1 ≤ (stA es F x.1).length ∧ RowO 3 (iv ((stA es F (x.1)).map Prod.fst)) x.2.1 x.2.2.1 ∧ RowO 3 (iv ((stA es F (x.1)).map Prod.snd)) x.2.2.2.1 x.2.2.2.2) (fun x => bndA es F + 1 - x.1) (0, v1, e1, v2, e2) ?_ ?_ ?_ ?_
      · rfl
      · rfl
      · exact ⟨Nat.zero_le _, h1, h2⟩
      · rintro ⟨j, v1, e1, v2, e2⟩ g' ⟨hj, h1, h2⟩
        dsimp only [setAll, setG, setM, List.set]
        dsimp only at hj h1 h2
        have hl := stA_len es F j
        refine WC_seq ?_
        refine WC_seq ?_
        refine WC_region ?_
        refine WL_det rfl (det_move) ?_
        dsimp only [put, List.set, ev, nth, List.nil_append, List.cons_append, md, Nat.reducePow, Nat.reduceAdd, Nat.reduceMul]
        refine WL_det rfl (det_move) ?_
        dsimp only [put, List.set, ev, nth, List.nil_append, List.cons_append, md, Nat.reducePow, Nat.reduceAdd, Nat.reduceMul]
        refine WL_det rfl (det_lenR Try.underlying43 rfl (fun w hw => RowO.rd hw 0 rfl h1) (iv_len ((stA es F (j)).map Prod.fst))) ?_
        dsimp only [put, List.set, ev, nth, List.nil_append, List.cons_append, md, Nat.reducePow, Nat.reduceAdd, Nat.reduceMul]
        refine WL_det rfl (det_lss rfl rfl) ?_
        dsimp only [put, List.set, ev, nth, List.nil_append, List.cons_append, md, Nat.reducePow, Nat.reduceAdd, Nat.reduceMul]
        refine WL_nil ?_
        refine WC_cond rfl (fun hc2 => ?_) (fun hc2 => ?_)
        · have hc2 := of_decide_eq_true hc2
          rw [List.length_map] at hc2
          have hlt := hc2
          obtain ⟨⟨a, ai⟩, ha⟩ : ∃ x, (stA es F j)[j]? = some x := ⟨_, List.getElem?_eq_getElem hlt⟩
          have hle : j + 1 ≤ (stA es F (j + 1)).length := Nat.le_trans hlt (expA_pre es j _).length_le
          refine WC_skip ?_
          refine WC_seq ?_
          refine WC_block ?_
          refine WC_seq ?_
          refine WC_region ?_
          refine WL_det rfl (det_assign) ?_
          dsimp only [put, List.set, ev, nth, List.nil_append, List.cons_append, md, Nat.reducePow, Nat.reduceAdd, Nat.reduceMul]
          refine WL_nil ?_
          refine WC_block ?_
          refine WC_loopS (ι := Nat × Value × (Option Nat × Obj) × Value × (Option Nat × Obj)) [40, 41, 42, 43, 46, 47, 48, 49, 50, 51, 52, 53, 54, 55, 56, 57, 58, 59, 60, 61, 62, 63, 64, 65, 66, 67, 68, 69, 70, 71, 72, 73, 74, 75, 76, 77, 44, 45] (fun x => [(10, vn .i64 (x.1)), (6, x.2.1), (7, x.2.2.2.1)]) (fun x => [(0, x.2.2.1), (1, x.2.2.2.2)]) (fun x => x.1 ≤ es.length ∧ RowO 3 (iv ((exR es F j (x.1) a).map Prod.fst)) x.2.1 x.2.2.1 ∧ RowO 3 (iv ((exR es F j (x.1) a).map Prod.snd)) x.2.2.2.1 x.2.2.2.2) (fun x => es.length - x.1) (0, v1, e1, v2, e2) ?_ ?_ ?_ ?_
          · rfl
          · rfl
          · exact ⟨Nat.zero_le _, by rw [exR_zero]; exact h1, by rw [exR_zero]; exact h2⟩
          · rintro ⟨q, v3, e3, v4, e4⟩ g'' ⟨hq0, h3, h4⟩
            dsimp only [setAll, setG, setM, List.set]
            dsimp only at hq0 h3 h4
            have hl3 := exR_len q ha
            have hjl : j < (exR es F j q a).length := Nat.lt_of_lt_of_le hlt (exR_pre es F j q a).length_le
            have hka : ((exR es F j (q) a).map Prod.fst).getD j 0 = a := by simp [List.getD_eq_getElem?_getD, pre_get (exR_pre es F j q a) ha]
            refine WC_seq ?_
            refine WC_seq ?_
            refine WC_region ?_
            refine WL_det rfl (det_move) ?_
            dsimp only [put, List.set, ev, nth, List.nil_append, List.cons_append, md, Nat.reducePow, Nat.reduceAdd, Nat.reduceMul]
            refine WL_det rfl (det_move) ?_
            dsimp only [put, List.set, ev, nth, List.nil_append, List.cons_append, md, Nat.reducePow, Nat.reduceAdd, Nat.reduceMul]
            refine WL_det rfl (det_lenP Try.underlying52 rfl (fun w hw => RdP.far hw he)) ?_
            dsimp only [put, List.set, ev, nth, List.nil_append, List.cons_append, md, Nat.reducePow, Nat.reduceAdd, Nat.reduceMul]
            refine WL_det rfl (det_lss rfl rfl) ?_
            dsimp only [put, List.set, ev, nth, List.nil_append, List.cons_append, md, Nat.reducePow, Nat.reduceAdd, Nat.reduceMul]
            refine WL_nil ?_
            refine WC_cond rfl (fun hc3 => ?_) (fun hc3 => ?_)
            · have hc3 := of_decide_eq_true hc3
              refine WC_skip ?_
              refine WC_seq ?_
              refine WC_block ?_
              refine WC_seq ?_
              by_cases hA : (es.getD q (0, 0)).1 = a
              · refine WC_draw [[], [], [0, 1], [0, 1, 2], [0, 1, 2, 3], [], [], [5, 6], [5, 6, 7], [0, 1, 2, 3, 4, 5, 6, 7, 8], [0, 1, 2, 3, 4, 5, 6, 7, 8, 9], [0, 1, 2, 3, 4, 5, 6, 7, 8, 9, 10], [0, 1, 2, 3, 4, 5, 6, 7, 8, 9, 10], [0, 1, 2, 3, 4, 5, 6, 7, 8, 9, 10], [0, 1, 2, 3, 4, 5, 6, 7, 8, 9, 10, 12, 13], [0, 1, 2, 3, 4, 5, 6, 7, 8, 9, 10, 12, 13, 14], [0, 1, 2, 3, 4, 5, 6, 7, 8, 9, 10, 12, 13, 14, 15], [0, 1, 2, 3, 4, 5, 6, 7, 8, 9, 10, 11, 12, 13, 14, 15, 16], [0, 1, 2, 3, 4, 5, 6, 7, 8, 9, 10, 11, 12, 13, 14, 15, 16, 17], [0, 1, 2, 3, 4, 5, 6, 7, 8, 9, 10, 11, 12, 13, 14, 15, 16, 17, 18]] [] 80 [] (List.nil_sublist _) mixed rfl (by decide) ?_
                refine RW.pure rfl rfl (fun _ => rfl) (fun V hV => det_move) (fun _ _ _ => rfl) ?_
                dsimp only [put, List.set, ev, nth, List.nil_append, List.cons_append, md, Nat.reducePow, Nat.reduceAdd, Nat.reduceMul]
                refine RW.pure rfl rfl (fun _ => rfl) (fun V hV => det_move) (fun _ _ _ => rfl) ?_
                dsimp only [put, List.set, ev, nth, List.nil_append, List.cons_append, md, Nat.reducePow, Nat.reduceAdd, Nat.reduceMul]
                refine RW.det [] rfl rfl rfl rfl (fun _ => rfl) (fun V hV => Det.rel (det_idxP Try.underlying52 Try.sizeOf59 rfl rfl (rfl) (by omega) (fun w hw => RdP.far hw he))) (fun _ _ _ => rfl) ?_
                dsimp only [put, List.set, ev, nth, List.nil_append, List.cons_append, md, Nat.reducePow, Nat.reduceAdd, Nat.reduceMul]
                refine RW.pure rfl rfl (fun _ => rfl) (fun V hV => det_idxAo (j := 0) Try.underlying59 Try.sizeOf3 rfl rfl (rfl) (by omega)) (fun _ _ _ => rfl) ?_
                dsimp only [put, List.set, ev, nth, List.nil_append, List.cons_append, md, Nat.reducePow, Nat.reduceAdd, Nat.reduceMul]
                refine RW.det [] rfl rfl rfl rfl (fun _ => rfl) (fun V hV => Det.rel (det_loadP0 Try.isAgg3 rfl (fun w hw => RdP.far hw he) (by omega))) (fun _ _ _ => rfl) ?_
                dsimp only [put, List.set, ev, nth, List.nil_append, List.cons_append, md, Nat.reducePow, Nat.reduceAdd, Nat.reduceMul]
                refine RW.pure rfl rfl (fun _ => rfl) (fun V hV => det_move) (fun _ _ _ => rfl) ?_
                dsimp only [put, List.set, ev, nth, List.nil_append, List.cons_append, md, Nat.reducePow, Nat.reduceAdd, Nat.reduceMul]
                refine RW.pure rfl rfl (fun _ => rfl) (fun V hV => det_move) (fun _ _ _ => rfl) ?_
                dsimp only [put, List.set, ev, nth, List.nil_append, List.cons_append, md, Nat.reducePow, Nat.reduceAdd, Nat.reduceMul]
                refine RW.det [] rfl rfl rfl rfl (fun _ => rfl) (fun V hV => Det.rel (det_idxR Try.underlying43 Try.sizeOf3 rfl rfl (rfl) (by rw [iv_len]; rw [List.length_map]; omega) (fun w hw => RowO.rd hw 0 rfl h3))) (fun _ _ _ => rfl) ?_
                dsimp only [put, List.set, ev, nth, List.nil_append, List.cons_append, md, Nat.reducePow, Nat.reduceAdd, Nat.reduceMul]
                refine RW.det [] rfl rfl rfl rfl (fun _ => rfl) (fun V hV => Det.rel (det_loadR Try.isAgg3 rfl (fun w hw => RowO.rd hw 0 rfl h3) (iv_at ((exR es F j (q) a).map Prod.fst) (by rw [List.length_map]; omega)))) (fun _ _ _ => rfl) ?_
                dsimp only [put, List.set, ev, nth, List.nil_append, List.cons_append, md, Nat.reducePow, Nat.reduceAdd, Nat.reduceMul]
                refine RW.pure rfl rfl (fun _ => rfl) (fun V hV => Det.bv true (det_eqlz rfl rfl) (decide_eq_true (by rw [hka]; exact hA))) (fun _ _ _ => rfl) ?_
                dsimp only [put, List.set, ev, nth, List.nil_append, List.cons_append, md, Nat.reducePow, Nat.reduceAdd, Nat.reduceMul]
                refine RW.pure rfl rfl (fun _ => rfl) (fun V hV => det_move) (fun _ _ _ => rfl) ?_
                dsimp only [put, List.set, ev, nth, List.nil_append, List.cons_append, md, Nat.reducePow, Nat.reduceAdd, Nat.reduceMul]
                refine RW.pure rfl rfl (fun _ => rfl) (fun V hV => det_move) (fun _ _ _ => rfl) ?_
                dsimp only [put, List.set, ev, nth, List.nil_append, List.cons_append, md, Nat.reducePow, Nat.reduceAdd, Nat.reduceMul]
                refine RW.pure rfl rfl (fun _ => rfl) (fun V hV => det_move) (fun _ _ _ => rfl) ?_
                dsimp only [put, List.set, ev, nth, List.nil_append, List.cons_append, md, Nat.reducePow, Nat.reduceAdd, Nat.reduceMul]
                refine RW.pure rfl rfl (fun _ => rfl) (fun V hV => det_move) (fun _ _ _ => rfl) ?_
                dsimp only [put, List.set, ev, nth, List.nil_append, List.cons_append, md, Nat.reducePow, Nat.reduceAdd, Nat.reduceMul]
                refine RW.det [] rfl rfl rfl rfl (fun _ => rfl) (fun V hV => Det.rel (det_idxP Try.underlying52 Try.sizeOf59 rfl rfl (rfl) (by omega) (fun w hw => RdP.far hw he))) (fun _ _ _ => rfl) ?_
                dsimp only [put, List.set, ev, nth, List.nil_append, List.cons_append, md, Nat.reducePow, Nat.reduceAdd, Nat.reduceMul]
                refine RW.pure rfl rfl (fun _ => rfl) (fun V hV => det_idxAo (j := 1) Try.underlying59 Try.sizeOf3 rfl rfl (rfl) (by omega)) (fun _ _ _ => rfl) ?_
                dsimp only [put, List.set, ev, nth, List.nil_append, List.cons_append, md, Nat.reducePow, Nat.reduceAdd, Nat.reduceMul]
                refine RW.det [] rfl rfl rfl rfl (fun _ => rfl) (fun V hV => Det.rel (det_loadP1 Try.isAgg3 rfl (fun w hw => RdP.far hw he) (by omega))) (fun _ _ _ => rfl) ?_
                dsimp only [put, List.set, ev, nth, List.nil_append, List.cons_append, md, Nat.reducePow, Nat.reduceAdd, Nat.reduceMul]
                refine RW.det [] rfl rfl rfl rfl (fun _ => rfl) (fun V hV => Rel_call rfl Try.call26 (fun w hw => in_spec ((exR es F j (q) a).map Prod.fst) (es.getD q (0, 0)).2 v3 (by rw [List.length_map]; omega) w (RowO.rd (hflat0 hw) 0 rfl h3))) (fun _ _ _ => rfl) ?_
                dsimp only [put, List.set, ev, nth, List.nil_append, List.cons_append, md, Nat.reducePow, Nat.reduceAdd, Nat.reduceMul]
                refine RW.pure rfl rfl (fun _ => rfl) (fun V hV => det_not rfl) (fun _ _ _ => rfl) ?_
                dsimp only [put, List.set, ev, nth, List.nil_append, List.cons_append, md, Nat.reducePow, Nat.reduceAdd, Nat.reduceMul]
                refine RW.pure rfl rfl (fun _ => rfl) (fun V hV => det_pick_true rfl) (fun _ _ _ => rfl) ?_
                dsimp only [put, List.set, ev, nth, List.nil_append, List.cons_append, md, Nat.reducePow, Nat.reduceAdd, Nat.reduceMul]
                refine RW.done (fun V => _ ++ flat [] V) rfl rfl (fun _ => rfl) (fun V hV => ?_)
                try dsimp only [put, blk, flat_nil, List.append_nil, List.append, List.eraseIdx, List.set, ev, nth, List.nil_append, List.cons_append, md, Nat.reducePow, Nat.reduceAdd, Nat.reduceMul]
                refine WC_cond rfl (fun hc4 => ?_) (fun hc4 => ?_)
                · have hx : (es.getD q (0, 0)).2 ∉ (exR es F j (q) a).map Prod.fst := by simpa using hc4
                  have hS : exR es F j (q + 1) a = insA (j : Int) (exR es F j (q) a) (es.getD q (0, 0)).2 := by rw [exR_step (by omega) (0, 0), if_pos hA]
                  have e1x : (exR es F j (q + 1) a).map Prod.fst = (exR es F j (q) a).map Prod.fst ++ [(es.getD q (0, 0)).2] := by rw [hS, insA_fst hx]
                  have e2x : (exR es F j (q + 1) a).map Prod.snd = (exR es F j (q) a).map Prod.snd ++ [((j : Nat) : Int)] := by rw [hS, insA_snd hx]
                  refine WC_seq ?_
                  refine WC_region ?_
                  refine WL_det rfl (det_move) ?_
                  dsimp only [put, List.set, ev, nth, List.nil_append, List.cons_append, md, Nat.reducePow, Nat.reduceAdd, Nat.reduceMul]
                  refine WL_det rfl (det_move) ?_
                  dsimp only [put, List.set, ev, nth, List.nil_append, List.cons_append, md, Nat.reducePow, Nat.reduceAdd, Nat.reduceMul]
                  refine WL_det rfl (det_move) ?_
                  dsimp only [put, List.set, ev, nth, List.nil_append, List.cons_append, md, Nat.reducePow, Nat.reduceAdd, Nat.reduceMul]
                  refine WL_det rfl (det_idxP Try.underlying52 Try.sizeOf59 rfl rfl (rfl) (by omega) (fun w hw => RdP.far hw he)) ?_
                  dsimp only [put, List.set, ev, nth, List.nil_append, List.cons_append, md, Nat.reducePow, Nat.reduceAdd, Nat.reduceMul]
                  refine WL_det rfl (det_idxAo (j := 1) Try.underlying59 Try.sizeOf3 rfl rfl (rfl) (by omega)) ?_
                  dsimp only [put, List.set, ev, nth, List.nil_append, List.cons_append, md, Nat.reducePow, Nat.reduceAdd, Nat.reduceMul]
                  refine WL_det rfl (det_loadP1 Try.isAgg3 rfl (fun w hw => RdP.far hw he) (by omega)) ?_
                  dsimp only [put, List.set, ev, nth, List.nil_append, List.cons_append, md, Nat.reducePow, Nat.reduceAdd, Nat.reduceMul]
                  refine WL_rel rfl (rel_lit1 Try.underlying43 Try.zeroValue3 Try.sizeOf3 rfl rfl) ?_
                  rintro _ _ ⟨bl, rfl, rfl⟩
                  dsimp only [put, List.set, ev, nth, List.nil_append, List.cons_append, md, Nat.reducePow, Nat.reduceAdd, Nat.reduceMul]
                  refine WL_chg rfl (chg_appendO1 0 2 rfl (by decide) (h3) rfl rfl rfl rfl Try.underlying43 ei3 rfl (by rw [iv_len, List.length_map]; omega) (by decide)) ?_
                  rintro v73 _ ⟨e73, hr73, rfl⟩
                  dsimp only [put, List.eraseIdx, List.set, ev, nth, List.nil_append, List.cons_append, md, Nat.reducePow, Nat.reduceAdd, Nat.reduceMul]
                  rw [iv_snoc] at hr73
                  rw [← e1x] at hr73
                  refine WL_det rfl (det_assign) ?_
                  dsimp only [put, List.set, ev, nth, List.nil_append, List.cons_append, md, Nat.reducePow, Nat.reduceAdd, Nat.reduceMul]
                  refine WL_nil ?_
                  refine WC_region ?_
                  refine WL_det rfl (det_move) ?_
                  dsimp only [put, List.set, ev, nth, List.nil_append, List.cons_append, md, Nat.reducePow, Nat.reduceAdd, Nat.reduceMul]
                  refine WL_det rfl (det_move) ?_
                  dsimp only [put, List.set, ev, nth, List.nil_append, List.cons_append, md, Nat.reducePow, Nat.reduceAdd, Nat.reduceMul]
                  refine WL_rel rfl (rel_lit1 Try.underlying43 Try.zeroValue3 Try.sizeOf3 rfl rfl) ?_
                  rintro _ _ ⟨bl, rfl, rfl⟩
                  dsimp only [put, List.set, ev, nth, List.nil_append, List.cons_append, md, Nat.reducePow, Nat.reduceAdd, Nat.reduceMul]
                  refine WL_chg rfl (chg_appendO1 1 2 rfl (by decide) (h4) rfl rfl rfl rfl Try.underlying43 ei3 rfl (by rw [iv_len, List.length_map]; omega) (by decide)) ?_
                  rintro v77 _ ⟨e77, hr77, rfl⟩
                  dsimp only [put, List.eraseIdx, List.set, ev, nth, List.nil_append, List.cons_append, md, Nat.reducePow, Nat.reduceAdd, Nat.reduceMul]
                  rw [show vn .i64 j = Value.int .i64 ((j : Nat) : Int) from rfl] at hr77
                  rw [iv_snoc] at hr77
                  rw [← e2x] at hr77
                  refine WL_det rfl (det_assign) ?_
                  dsimp only [put, List.set, ev, nth, List.nil_append, List.cons_append, md, Nat.reducePow, Nat.reduceAdd, Nat.reduceMul]
                  refine WL_nil ?_
                  refine WC_region ?_
                  refine WL_det rfl (det_move) ?_
                  dsimp only [put, List.set, ev, nth, List.nil_append, List.cons_append, md, Nat.reducePow, Nat.reduceAdd, Nat.reduceMul]
                  refine WL_det rfl (det_addi (q := 1) rfl rfl (by omega)) ?_
                  dsimp only [put, List.set, ev, nth, List.nil_append, List.cons_append, md, Nat.reducePow, Nat.reduceAdd, Nat.reduceMul]
                  refine WL_det rfl (det_assign) ?_
                  dsimp only [put, List.set, ev, nth, List.nil_append, List.cons_append, md, Nat.reducePow, Nat.reduceAdd, Nat.reduceMul]
                  refine WL_nil ?_
                  refine ⟨(q + 1, v73, e73, v77, e77), ?_, ?_, ?_, ?_⟩
                  · rfl
                  · rfl
                  · exact ⟨by dsimp only; omega, hr73, hr77⟩
                  · dsimp only; omega
                · have hx : (es.getD q (0, 0)).2 ∈ (exR es F j (q) a).map Prod.fst := by simpa using hc4
                  have e0 : exR es F j (q + 1) a = exR es F j q a := by rw [exR_step (by omega) (0, 0)]; rw [if_pos hA, insA_old hx]
                  rw [← e0] at h3 h4
                  obtain ⟨v73, hq⟩ : ∃ v, v = v3 := ⟨_, rfl⟩
                  subst hq
                  obtain ⟨e73, hq⟩ : ∃ v, v = e3 := ⟨_, rfl⟩
                  subst hq
                  obtain ⟨v77, hq⟩ : ∃ v, v = v4 := ⟨_, rfl⟩
                  subst hq
                  obtain ⟨e77, hq⟩ : ∃ v, v = e4 := ⟨_, rfl⟩
                  subst hq
                  have hr73 := h3
                  have hr77 := h4
                  refine WC_skip ?_
                  refine WC_region ?_
                  refine WL_det rfl (det_move) ?_
                  dsimp only [put, List.set, ev, nth, List.nil_append, List.cons_append, md, Nat.reducePow, Nat.reduceAdd, Nat.reduceMul]
                  refine WL_det rfl (det_addi (q := 1) rfl rfl (by omega)) ?_
                  dsimp only [put, List.set, ev, nth, List.nil_append, List.cons_append, md, Nat.reducePow, Nat.reduceAdd, Nat.reduceMul]
                  refine WL_det rfl (det_assign) ?_
                  dsimp only [put, List.set, ev, nth, List.nil_append, List.cons_append, md, Nat.reducePow, Nat.reduceAdd, Nat.reduceMul]
                  refine WL_nil ?_
                  refine ⟨(q + 1, v73, e73, v77, e77), ?_, ?_, ?_, ?_⟩
                  · rfl
                  · rfl
                  · exact ⟨by dsimp only; omega, hr73, hr77⟩
                  · dsimp only; omega
              · refine WC_draw [[], [], [0, 1], [0, 1, 2], [0, 1, 2, 3], [], [], [5, 6], [5, 6, 7], [0, 1, 2, 3, 4, 5, 6, 7, 8], [0, 1, 2, 3, 4, 5, 6, 7, 8, 9], [0, 1, 2, 3, 4, 5, 6, 7, 8, 9, 10], [0, 1, 2, 3, 4, 5, 6, 7, 8, 9, 10], [0, 1, 2, 3, 4, 5, 6, 7, 8, 9, 10], [0, 1, 2, 3, 4, 5, 6, 7, 8, 9, 10, 12, 13], [0, 1, 2, 3, 4, 5, 6, 7, 8, 9, 10, 12, 13, 14], [0, 1, 2, 3, 4, 5, 6, 7, 8, 9, 10, 12, 13, 14, 15], [0, 1, 2, 3, 4, 5, 6, 7, 8, 9, 10, 11, 12, 13, 14, 15, 16], [0, 1, 2, 3, 4, 5, 6, 7, 8, 9, 10, 11, 12, 13, 14, 15, 16, 17], [0, 1, 2, 3, 4, 5, 6, 7, 8, 9, 10, 11, 12, 13, 14, 15, 16, 17, 18]] [] 80 [] (List.nil_sublist _) mixed rfl (by decide) ?_
                refine RW.pure rfl rfl (fun _ => rfl) (fun V hV => det_move) (fun _ _ _ => rfl) ?_
                dsimp only [put, List.set, ev, nth, List.nil_append, List.cons_append, md, Nat.reducePow, Nat.reduceAdd, Nat.reduceMul]
                refine RW.pure rfl rfl (fun _ => rfl) (fun V hV => det_move) (fun _ _ _ => rfl) ?_
                dsimp only [put, List.set, ev, nth, List.nil_append, List.cons_append, md, Nat.reducePow, Nat.reduceAdd, Nat.reduceMul]
                refine RW.det [] rfl rfl rfl rfl (fun _ => rfl) (fun V hV => Det.rel (det_idxP Try.underlying52 Try.sizeOf59 rfl rfl (rfl) (by omega) (fun w hw => RdP.far hw he))) (fun _ _ _ => rfl) ?_
                dsimp only [put, List.set, ev, nth, List.nil_append, List.cons_append, md, Nat.reducePow, Nat.reduceAdd, Nat.reduceMul]
                refine RW.pure rfl rfl (fun _ => rfl) (fun V hV => det_idxAo (j := 0) Try.underlying59 Try.sizeOf3 rfl rfl (rfl) (by omega)) (fun _ _ _ => rfl) ?_
                dsimp only [put, List.set, ev, nth, List.nil_append, List.cons_append, md, Nat.reducePow, Nat.reduceAdd, Nat.reduceMul]
                refine RW.det [] rfl rfl rfl rfl (fun _ => rfl) (fun V hV => Det.rel (det_loadP0 Try.isAgg3 rfl (fun w hw => RdP.far hw he) (by omega))) (fun _ _ _ => rfl) ?_
                dsimp only [put, List.set, ev, nth, List.nil_append, List.cons_append, md, Nat.reducePow, Nat.reduceAdd, Nat.reduceMul]
                refine RW.pure rfl rfl (fun _ => rfl) (fun V hV => det_move) (fun _ _ _ => rfl) ?_
                dsimp only [put, List.set, ev, nth, List.nil_append, List.cons_append, md, Nat.reducePow, Nat.reduceAdd, Nat.reduceMul]
                refine RW.pure rfl rfl (fun _ => rfl) (fun V hV => det_move) (fun _ _ _ => rfl) ?_
                dsimp only [put, List.set, ev, nth, List.nil_append, List.cons_append, md, Nat.reducePow, Nat.reduceAdd, Nat.reduceMul]
                refine RW.det [] rfl rfl rfl rfl (fun _ => rfl) (fun V hV => Det.rel (det_idxR Try.underlying43 Try.sizeOf3 rfl rfl (rfl) (by rw [iv_len]; rw [List.length_map]; omega) (fun w hw => RowO.rd hw 0 rfl h3))) (fun _ _ _ => rfl) ?_
                dsimp only [put, List.set, ev, nth, List.nil_append, List.cons_append, md, Nat.reducePow, Nat.reduceAdd, Nat.reduceMul]
                refine RW.det [] rfl rfl rfl rfl (fun _ => rfl) (fun V hV => Det.rel (det_loadR Try.isAgg3 rfl (fun w hw => RowO.rd hw 0 rfl h3) (iv_at ((exR es F j (q) a).map Prod.fst) (by rw [List.length_map]; omega)))) (fun _ _ _ => rfl) ?_
                dsimp only [put, List.set, ev, nth, List.nil_append, List.cons_append, md, Nat.reducePow, Nat.reduceAdd, Nat.reduceMul]
                refine RW.pure rfl rfl (fun _ => rfl) (fun V hV => Det.bv false (det_eqlz rfl rfl) (decide_eq_false (by rw [hka]; exact hA))) (fun _ _ _ => rfl) ?_
                dsimp only [put, List.set, ev, nth, List.nil_append, List.cons_append, md, Nat.reducePow, Nat.reduceAdd, Nat.reduceMul]
                refine RW.pure rfl rfl (fun _ => rfl) (fun V hV => det_move) (fun _ _ _ => rfl) ?_
                dsimp only [put, List.set, ev, nth, List.nil_append, List.cons_append, md, Nat.reducePow, Nat.reduceAdd, Nat.reduceMul]
                refine RW.skip rfl rfl (fun _ => rfl) ?_
                dsimp only [put, List.set, ev, nth, List.nil_append, List.cons_append, md, Nat.reducePow, Nat.reduceAdd, Nat.reduceMul]
                refine RW.skip rfl rfl (fun _ => rfl) ?_
                dsimp only [put, List.set, ev, nth, List.nil_append, List.cons_append, md, Nat.reducePow, Nat.reduceAdd, Nat.reduceMul]
                refine RW.skip rfl rfl (fun _ => rfl) ?_
                dsimp only [put, List.set, ev, nth, List.nil_append, List.cons_append, md, Nat.reducePow, Nat.reduceAdd, Nat.reduceMul]
                refine RW.skip rfl rfl (fun _ => rfl) ?_
                dsimp only [put, List.set, ev, nth, List.nil_append, List.cons_append, md, Nat.reducePow, Nat.reduceAdd, Nat.reduceMul]
                refine RW.skip rfl rfl (fun _ => rfl) ?_
                dsimp only [put, List.set, ev, nth, List.nil_append, List.cons_append, md, Nat.reducePow, Nat.reduceAdd, Nat.reduceMul]
                refine RW.skip rfl rfl (fun _ => rfl) ?_
                dsimp only [put, List.set, ev, nth, List.nil_append, List.cons_append, md, Nat.reducePow, Nat.reduceAdd, Nat.reduceMul]
                refine RW.skip rfl rfl (fun _ => rfl) ?_
                dsimp only [put, List.set, ev, nth, List.nil_append, List.cons_append, md, Nat.reducePow, Nat.reduceAdd, Nat.reduceMul]
                refine RW.skip rfl rfl (fun _ => rfl) ?_
                dsimp only [put, List.set, ev, nth, List.nil_append, List.cons_append, md, Nat.reducePow, Nat.reduceAdd, Nat.reduceMul]
                refine RW.pure rfl rfl (fun _ => rfl) (fun V hV => det_pick_false rfl) (fun _ _ _ => rfl) ?_
                dsimp only [put, List.set, ev, nth, List.nil_append, List.cons_append, md, Nat.reducePow, Nat.reduceAdd, Nat.reduceMul]
                refine RW.done (fun V => _ ++ flat [] V) rfl rfl (fun _ => rfl) (fun V hV => ?_)
                try dsimp only [put, blk, flat_nil, List.append_nil, List.append, List.eraseIdx, List.set, ev, nth, List.nil_append, List.cons_append, md, Nat.reducePow, Nat.reduceAdd, Nat.reduceMul]
                have e0 : exR es F j (q + 1) a = exR es F j q a := by rw [exR_step (by omega) (0, 0)]; rw [if_neg hA]
                rw [← e0] at h3 h4
                obtain ⟨v73, hq⟩ : ∃ v, v = v3 := ⟨_, rfl⟩
                subst hq
                obtain ⟨e73, hq⟩ : ∃ v, v = e3 := ⟨_, rfl⟩
                subst hq
                obtain ⟨v77, hq⟩ : ∃ v, v = v4 := ⟨_, rfl⟩
                subst hq
                obtain ⟨e77, hq⟩ : ∃ v, v = e4 := ⟨_, rfl⟩
                subst hq
                have hr73 := h3
                have hr77 := h4
                refine WC_cond_false rfl ?_
                refine WC_skip ?_
                refine WC_region ?_
                refine WL_det rfl (det_move) ?_
                dsimp only [put, List.set, ev, nth, List.nil_append, List.cons_append, md, Nat.reducePow, Nat.reduceAdd, Nat.reduceMul]
                refine WL_det rfl (det_addi (q := 1) rfl rfl (by omega)) ?_
                dsimp only [put, List.set, ev, nth, List.nil_append, List.cons_append, md, Nat.reducePow, Nat.reduceAdd, Nat.reduceMul]
                refine WL_det rfl (det_assign) ?_
                dsimp only [put, List.set, ev, nth, List.nil_append, List.cons_append, md, Nat.reducePow, Nat.reduceAdd, Nat.reduceMul]
                refine WL_nil ?_
                refine ⟨(q + 1, v73, e73, v77, e77), ?_, ?_, ?_, ?_⟩
                · rfl
                · rfl
                · exact ⟨by dsimp only; omega, hr73, hr77⟩
                · dsimp only; omega
            · have hc3 := of_decide_eq_false hc3
              obtain rfl : q = es.length := by omega
              rw [exR_all ha] at h3 h4
              obtain ⟨v8, hq⟩ : ∃ v, v = v3 := ⟨_, rfl⟩
              subst hq
              obtain ⟨e8, hq⟩ : ∃ v, v = e3 := ⟨_, rfl⟩
              subst hq
              obtain ⟨v9, hq⟩ : ∃ v, v = v4 := ⟨_, rfl⟩
              subst hq
              obtain ⟨e9, hq⟩ : ∃ v, v = e4 := ⟨_, rfl⟩
              subst hq
              have hr8 := h3
              have hr9 := h4
              refine WC_exit ?_
              refine inB_same ?_
              refine WC_region ?_
              refine WL_det rfl (det_move) ?_
              dsimp only [put, List.set, ev, nth, List.nil_append, List.cons_append, md, Nat.reducePow, Nat.reduceAdd, Nat.reduceMul]
              refine WL_det rfl (det_addi (q := 1) rfl rfl (by omega)) ?_
              dsimp only [put, List.set, ev, nth, List.nil_append, List.cons_append, md, Nat.reducePow, Nat.reduceAdd, Nat.reduceMul]
              refine WL_det rfl (det_assign) ?_
              dsimp only [put, List.set, ev, nth, List.nil_append, List.cons_append, md, Nat.reducePow, Nat.reduceAdd, Nat.reduceMul]
              refine WL_nil ?_
              refine ⟨(j + 1, v8, e8, v9, e9), ?_, ?_, ?_, ?_⟩
              · rfl
              · rfl
              · exact ⟨hle, hr8, hr9⟩
              · dsimp only; omega
        · have hc2 := of_decide_eq_false hc2
          rw [List.length_map] at hc2
          have hS : srch es F = stA es F j := srch_eq (by omega) (by omega)
          refine WC_exit ?_
          refine inB_same ?_
          refine WC_seq ?_
          refine WC_region ?_
          refine WL_det rfl (det_move) ?_
          dsimp only [put, List.set, ev, nth, List.nil_append, List.cons_append, md, Nat.reducePow, Nat.reduceAdd, Nat.reduceMul]
          refine WL_det rfl (det_move) ?_
          dsimp only [put, List.set, ev, nth, List.nil_append, List.cons_append, md, Nat.reducePow, Nat.reduceAdd, Nat.reduceMul]
          refine WL_det rfl (det_assign) ?_
          dsimp only [put, List.set, ev, nth, List.nil_append, List.cons_append, md, Nat.reducePow, Nat.reduceAdd, Nat.reduceMul]
          refine WL_det rfl (det_assign) ?_
          dsimp only [put, List.set, ev, nth, List.nil_append, List.cons_append, md, Nat.reducePow, Nat.reduceAdd, Nat.reduceMul]
          refine WL_nil ?_
          rw [← hS] at h1 h2
          refine WC_ret ?_
          refine fin_tmp2 Try.results31 rfl rfl ([e1, e2]) (List.Sublist.refl _) ?_
          exact ⟨v1, v2, e1, e2, rfl, h1, h2, rfl⟩

set_option maxRecDepth 100000 in
set_option maxHeartbeats 4000000 in
theorem rpath_spec (es : List (Int × Int)) (F : List Int) (to : Int) (ve vf : Value) (hes : es.length ≤ 200) (hF : F.length ≤ 400) (w : World) (he : RdP w es ve) (hf : RdL w (iv F) vf) :
    Calls Try.prog 32 [ve, .int .i64 to, vf].toArray w (Post w (fun v m => ∃ v1 e1, v = .tuple #[v1, .bool (decide (to ∈ (srch es F).map Prod.fst))] ∧ RowO 3 (iv (pathL (srch es F) to)) v1 e1 ∧ m = [e1])) := by
  have hnl := nodes_len es
  have hbd : bndA es F ≤ 1000 := by unfold bndA; omega
  have hsl : (srch es F).length ≤ 1000 := Nat.le_trans (stA_len es F _) hbd
  have hbk : BackOk (srch es F) := stA_back es F _
  refine calls_of_WC Try.func32 rfl ?_
  simp only [Try.ntmps32, List.length_cons, List.length_nil, Nat.reduceAdd, Nat.reduceSub, List.replicate, List.cons_append, List.nil_append]
  refine WC_seq ?_
  refine WC_region ?_
  refine WL_det rfl (det_assign) ?_
  dsimp only [put, List.set, ev, nth, List.nil_append, List.cons_append, md, Nat.reducePow, Nat.reduceAdd, Nat.reduceMul]
  refine WL_det rfl (det_assign) ?_
  dsimp only [put, List.set, ev, nth, List.nil_append, List.cons_append, md, Nat.reducePow, Nat.reduceAdd, Nat.reduceMul]
  refine WL_nil ?_
  refine WC_seq ?_
  refine WC_region ?_
  refine WL_det rfl (det_move) ?_
  dsimp only [put, List.set, ev, nth, List.nil_append, List.cons_append, md, Nat.reducePow, Nat.reduceAdd, Nat.reduceMul]
  refine WL_det rfl (det_move) ?_
  dsimp only [put, List.set, ev, nth, List.nil_append, List.cons_append, md, Nat.reducePow, Nat.reduceAdd, Nat.reduceMul]
  refine WL_rel rfl (Rel_call rfl Try.call31 (fun w hw => rsearch_spec es F ve vf hes hF w (RdP.far hw he) (RdL.far hw hf))) ?_
  rintro _ _ ⟨v1, v2, e1, e2, rfl, h1, h2, rfl⟩
  dsimp only [put, List.append_nil, List.set, ev, nth, List.nil_append, List.cons_append, md, Nat.reducePow, Nat.reduceAdd, Nat.reduceMul]
  refine WL_det rfl (det_move) ?_
  dsimp only [put, List.set, ev, nth, List.nil_append, List.cons_append, md, Nat.reducePow, Nat.reduceAdd, Nat.reduceMul]
  refine WL_det rfl (det_extract rfl rfl) ?_
  dsimp only [put, List.set, ev, nth, List.nil_append, List.cons_append, md, Nat.reducePow, Nat.reduceAdd, Nat.reduceMul]
  refine WL_det rfl (det_extract rfl rfl) ?_
  dsimp only [put, List.set, ev, nth, List.nil_append, List.cons_append, md, Nat.reducePow, Nat.reduceAdd, Nat.reduceMul]
  refine WL_det rfl (det_assign) ?_
  dsimp only [put, List.set, ev, nth, List.nil_append, List.cons_append, md, Nat.reducePow, Nat.reduceAdd, Nat.reduceMul]
  refine WL_det rfl (det_assign) ?_
  dsimp only [put, List.set, ev, nth, List.nil_append, List.cons_append, md, Nat.reducePow, Nat.reduceAdd, Nat.reduceMul]
  refine WL_nil ?_
  refine WC_seq ?_
  refine WC_seq ?_
  refine WC_region ?_
  refine WL_det rfl (det_assign) ?_
  dsimp only [put, List.set, ev, nth, List.nil_append, List.cons_append, md, Nat.reducePow, Nat.reduceAdd, Nat.reduceMul]
  refine WL_nil ?_
  refine WC_block ?_
  refine WC_loopS (ι := Nat) [19, 20, 21, 22, 25, 26, 27, 28, 29, 30, 11, 31, 12, 32, 33, 38, 39, 40, 41, 42, 43, 44, 34, 35, 36, 37, 45, 6, 7, 23, 24] (fun i => [(10, vn .i64 (i))]) (fun i => []) (fun i => i ≤ (srch es F).length ∧ ∀ j, j < i → ((srch es F).map Prod.fst).getD j 0 ≠ to) (fun i => (srch es F).length - i) 0 ?_ ?_ ?_ ?_
  · rfl
  · rfl
  · exact ⟨Nat.zero_le _, fun j hj => absurd hj (Nat.not_lt_zero _)⟩
  · rintro i g' ⟨hi, hall⟩
    dsimp only [setAll, setG, setM, List.set]
    refine WC_seq ?_
    refine WC_seq ?_
    refine WC_region ?_
    refine WL_det rfl (det_move) ?_
    dsimp only [put, List.set, ev, nth, List.nil_append, List.cons_append, md, Nat.reducePow, Nat.reduceAdd, Nat.reduceMul]
    refine WL_det rfl (det_move) ?_
    dsimp only [put, List.set, ev, nth, List.nil_append, List.cons_append, md, Nat.reducePow, Nat.reduceAdd, Nat.reduceMul]
    refine WL_det rfl (det_lenR Try.underlying43 rfl (fun w hw => RowO.rd hw 0 rfl h1) (iv_len ((srch es F).map Prod.fst))) ?_
    dsimp only [put, List.set, ev, nth, List.nil_append, List.cons_append, md, Nat.reducePow, Nat.reduceAdd, Nat.reduceMul]
    refine WL_det rfl (det_lss rfl rfl) ?_
    dsimp only [put, List.set, ev, nth, List.nil_append, List.cons_append, md, Nat.reducePow, Nat.reduceAdd, Nat.reduceMul]
    refine WL_nil ?_
    refine WC_cond rfl (fun hc0 => ?_) (fun hc0 => ?_)
    · have hc0 := of_decide_eq_true hc0
      rw [List.length_map] at hc0
      refine WC_skip ?_
      refine WC_seq ?_
      refine WC_block ?_
      refine WC_seq ?_
      refine WC_seq ?_
      refine WC_region ?_
      refine WL_det rfl (det_move) ?_
      dsimp only [put, List.set, ev, nth, List.nil_append, List.cons_append, md, Nat.reducePow, Nat.reduceAdd, Nat.reduceMul]
      refine WL_det rfl (det_move) ?_
      dsimp only [put, List.set, ev, nth, List.nil_append, List.cons_append, md, Nat.reducePow, Nat.reduceAdd, Nat.reduceMul]
      refine WL_det rfl (det_idxR Try.underlying43 Try.sizeOf3 rfl rfl (rfl) (by rw [iv_len]; rw [List.length_map]; omega) (fun w hw => RowO.rd hw 0 rfl h1)) ?_
      dsimp only [put, List.set, ev, nth, List.nil_append, List.cons_append, md, Nat.reducePow, Nat.reduceAdd, Nat.reduceMul]
      refine WL_det rfl (det_loadR Try.isAgg3 rfl (fun w hw => RowO.rd hw 0 rfl h1) (iv_at ((srch es F).map Prod.fst) (by rw [List.length_map]; omega))) ?_
      dsimp only [put, List.set, ev, nth, List.nil_append, List.cons_append, md, Nat.reducePow, Nat.reduceAdd, Nat.reduceMul]
      refine WL_det rfl (det_move) ?_
      dsimp only [put, List.set, ev, nth, List.nil_append, List.cons_append, md, Nat.reducePow, Nat.reduceAdd, Nat.reduceMul]
      refine WL_det rfl (det_neqz rfl rfl) ?_
      dsimp only [put, List.set, ev, nth, List.nil_append, List.cons_append, md, Nat.reducePow, Nat.reduceAdd, Nat.reduceMul]
      refine WL_nil ?_
      refine WC_cond rfl (fun hc1 => ?_) (fun hc1 => ?_)
      · have hne : ((srch es F).map Prod.fst).getD i 0 ≠ to := by simpa using hc1
        refine WC_exit ?_
        refine inB_same ?_
        refine WC_region ?_
        refine WL_det rfl (det_move) ?_
        dsimp only [put, List.set, ev, nth, List.nil_append, List.cons_append, md, Nat.reducePow, Nat.reduceAdd, Nat.reduceMul]
        refine WL_det rfl (det_addi (q := 1) rfl rfl (by omega)) ?_
        dsimp only [put, List.set, ev, nth, List.nil_append, List.cons_append, md, Nat.reducePow, Nat.reduceAdd, Nat.reduceMul]
        refine WL_det rfl (det_assign) ?_
        dsimp only [put, List.set, ev, nth, List.nil_append, List.cons_append, md, Nat.reducePow, Nat.reduceAdd, Nat.reduceMul]
        refine WL_nil ?_
        refine ⟨i + 1, ?_, ?_, ?_, ?_⟩
        · rfl
        · rfl
        · exact ⟨by omega, fun j hj => by rcases Nat.lt_succ_iff_lt_or_eq.1 hj with h | rfl; exact hall j h; exact hne⟩
        · omega
      · have heq : ((srch es F).map Prod.fst).getD i 0 = to := by simpa using hc1
        obtain ⟨hix, hto⟩ := idx_found (L := (srch es F).map Prod.fst) (by rw [List.length_map]; omega) hall heq.symm
        refine WC_skip ?_
        refine WC_seq ?_
        refine WC_region ?_
        refine WL_det rfl (det_assign) ?_
        dsimp only [put, List.set, ev, nth, List.nil_append, List.cons_append, md, Nat.reducePow, Nat.reduceAdd, Nat.reduceMul]
        refine WL_nil ?_
        refine WC_seq ?_
        refine WC_seq ?_
        refine WC_region ?_
        refine WL_det rfl (det_move) ?_
        dsimp only [put, List.set, ev, nth, List.nil_append, List.cons_append, md, Nat.reducePow, Nat.reduceAdd, Nat.reduceMul]
        refine WL_det rfl (det_assign) ?_
        dsimp only [put, List.set, ev, nth, List.nil_append, List.cons_append, md, Nat.reducePow, Nat.reduceAdd, Nat.reduceMul]
        refine WL_nil ?_
        refine WC_block ?_
        refine WC.addNone (.cells #[] 3 (0, 0)) ?_
        dsimp only [List.cons_append, List.nil_append]
        refine WC_loopS (ι := Int × List Int × Value × (Option Nat × Obj)) [32, 33, 38, 39, 40, 41, 42, 43, 44, 34, 35, 36, 37] (fun x => [(12, .int .i64 (x.1)), (11, x.2.2.1)]) (fun x => [(2, x.2.2.2)]) (fun x => (-1 ≤ x.1 ∧ x.1 < ((srch es F).length : Int)) ∧ (chainI (srch es F) x.1).reverse ++ x.2.1 = pathA (srch es F) i ∧ x.2.1.length + (x.1 + 1).toNat ≤ 1000000 ∧ RowL 3 (iv x.2.1) x.2.2.1 x.2.2.2) (fun x => (x.1 + 1).toNat) (((i : Nat) : Int), [], .slice none 0 0, (none, .cells #[] 3 (0, 0))) ?_ ?_ ?_ ?_
        · rfl
        · rfl
        · exact ⟨⟨by dsimp only; omega, by dsimp only; omega⟩, by dsimp only; rw [List.append_nil]; rfl, by dsimp only [List.length_nil]; omega, RowV.nil _ _ _⟩
        · rintro ⟨k, o, v, e⟩ g'' ⟨⟨hi1, hi2⟩, ho2, hol, hr⟩
          dsimp only [setAll, setG, setM, List.set]
          dsimp only at hi1 hi2 ho2 hol hr
          refine WC_seq ?_
          refine WC_seq ?_
          refine WC_region ?_
          refine WL_det rfl (det_move) ?_
          dsimp only [put, List.set, ev, nth, List.nil_append, List.cons_append, md, Nat.reducePow, Nat.reduceAdd, Nat.reduceMul]
          refine WL_det rfl (det_geqz rfl rfl) ?_
          dsimp only [put, List.set, ev, nth, List.nil_append, List.cons_append, md, Nat.reducePow, Nat.reduceAdd, Nat.reduceMul]
          refine WL_nil ?_
          refine WC_cond rfl (fun hc2 => ?_) (fun hc2 => ?_)
          · have hc2 := of_decide_eq_true hc2
            obtain ⟨xa, hxa⟩ : ∃ x, (srch es F)[k.toNat]? = some x := ⟨_, List.getElem?_eq_getElem (by omega)⟩
            have hb3 := hbk _ _ hxa
            have hx1 : (((srch es F).map Prod.fst).getD k.toNat 0) = xa.1 := by simp [List.getD_eq_getElem?_getD, hxa]
            have hx2 : (((srch es F).map Prod.snd).getD k.toNat 0) = xa.2 := by simp [List.getD_eq_getElem?_getD, hxa]
            have hst := chainI_step hbk hxa
            rw [Int.toNat_of_nonneg (by omega)] at hst
            refine WC_skip ?_
            refine WC_seq ?_
            refine WC_block ?_
            refine WC_region ?_
            refine WL_det rfl (det_move) ?_
            dsimp only [put, List.set, ev, nth, List.nil_append, List.cons_append, md, Nat.reducePow, Nat.reduceAdd, Nat.reduceMul]
            refine WL_det rfl (det_move) ?_
            dsimp only [put, List.set, ev, nth, List.nil_append, List.cons_append, md, Nat.reducePow, Nat.reduceAdd, Nat.reduceMul]
            refine WL_det rfl (det_idxR (j := k.toNat) Try.underlying43 Try.sizeOf3 rfl rfl (by omega) (by rw [iv_len]; rw [List.length_map]; omega) (fun w hw => RowO.rd hw 0 rfl h1)) ?_
            dsimp only [put, List.set, ev, nth, List.nil_append, List.cons_append, md, Nat.reducePow, Nat.reduceAdd, Nat.reduceMul]
            refine WL_det rfl (det_loadR Try.isAgg3 rfl (fun w hw => RowO.rd hw 0 rfl h1) (iv_at ((srch es F).map Prod.fst) (by rw [List.length_map]; omega))) ?_
            dsimp only [put, List.set, ev, nth, List.nil_append, List.cons_append, md, Nat.reducePow, Nat.reduceAdd, Nat.reduceMul]
            refine WL_rel rfl (rel_lit1 Try.underlying43 Try.zeroValue3 Try.sizeOf3 rfl rfl) ?_
            rintro _ _ ⟨bl, rfl, rfl⟩
            dsimp only [put, List.set, ev, nth, List.nil_append, List.cons_append, md, Nat.reducePow, Nat.reduceAdd, Nat.reduceMul]
            refine WL_det rfl (det_move) ?_
            dsimp only [put, List.set, ev, nth, List.nil_append, List.cons_append, md, Nat.reducePow, Nat.reduceAdd, Nat.reduceMul]
            refine WL_chg rfl (chg_appendVL 3 rfl (RowL.one1 3 _ _) rfl rfl (fun w hw => RowO.rd hw 2 rfl (RowL.o hr)) (iv_one o) Try.underlying43 ei3 rfl (by simp only [iv_len, List.length_singleton]; omega) (by decide)) ?_
            rintro v44 _ ⟨e44, hr44, rfl⟩
            dsimp only [put, List.eraseIdx, List.set, ev, nth, List.nil_append, List.cons_append, md, Nat.reducePow, Nat.reduceAdd, Nat.reduceMul]
            have hr44 : RowL 3 (iv ((((srch es F).map Prod.fst).getD k.toNat 0) :: o)) v44 e44 := RowL.app (l := iv [(((srch es F).map Prod.fst).getD k.toNat 0)]) hr44
            refine WL_det rfl (det_assign) ?_
            dsimp only [put, List.set, ev, nth, List.nil_append, List.cons_append, md, Nat.reducePow, Nat.reduceAdd, Nat.reduceMul]
            refine WL_nil ?_
            refine WC.forget (.cons_cons _ (.cons_cons _ (.cons _ (.cons_cons _ .slnil)))) ?_
            refine WC_region ?_
            refine WL_det rfl (det_move) ?_
            dsimp only [put, List.set, ev, nth, List.nil_append, List.cons_append, md, Nat.reducePow, Nat.reduceAdd, Nat.reduceMul]
            refine WL_det rfl (det_move) ?_
            dsimp only [put, List.set, ev, nth, List.nil_append, List.cons_append, md, Nat.reducePow, Nat.reduceAdd, Nat.reduceMul]
            refine WL_det rfl (det_idxR (j := k.toNat) Try.underlying43 Try.sizeOf3 rfl rfl (by omega) (by rw [iv_len]; rw [List.length_map]; omega) (fun w hw => RowO.rd hw 1 rfl h2)) ?_
            dsimp only [put, List.set, ev, nth, List.nil_append, List.cons_append, md, Nat.reducePow, Nat.reduceAdd, Nat.reduceMul]
            refine WL_det rfl (det_loadR Try.isAgg3 rfl (fun w hw => RowO.rd hw 1 rfl h2) (iv_at ((srch es F).map Prod.snd) (by rw [List.length_map]; omega))) ?_
            dsimp only [put, List.set, ev, nth, List.nil_append, List.cons_append, md, Nat.reducePow, Nat.reduceAdd, Nat.reduceMul]
            refine WL_det rfl (det_assign) ?_
            dsimp only [put, List.set, ev, nth, List.nil_append, List.cons_append, md, Nat.reducePow, Nat.reduceAdd, Nat.reduceMul]
            refine WL_nil ?_
            refine ⟨((((srch es F).map Prod.snd).getD k.toNat 0), (((srch es F).map Prod.fst).getD k.toNat 0) :: o, v44, e44), ?_, ?_, ?_, ?_⟩
            · rfl
            · rfl
            · refine ⟨⟨by dsimp only; rw [hx2]; omega, by dsimp only; rw [hx2]; omega⟩, ?_, ?_, hr44⟩
              · dsimp only
                rw [hst, List.reverse_cons, List.append_assoc] at ho2
                rw [hx1, hx2]
                exact ho2
              · dsimp only; rw [List.length_cons, hx2]; omega
            · dsimp only; rw [hx2]; omega
          · have hc2 := of_decide_eq_false hc2
            have hend : o = pathA (srch es F) i := by rw [← ho2]; unfold chainI; rw [if_pos (by omega)]; rfl
            refine WC_exit ?_
            refine inB_same ?_
            refine WC_seq ?_
            refine WC_region ?_
            refine WL_det rfl (det_move) ?_
            dsimp only [put, List.set, ev, nth, List.nil_append, List.cons_append, md, Nat.reducePow, Nat.reduceAdd, Nat.reduceMul]
            refine WL_det rfl (det_assign) ?_
            dsimp only [put, List.set, ev, nth, List.nil_append, List.cons_append, md, Nat.reducePow, Nat.reduceAdd, Nat.reduceMul]
            refine WL_det rfl (det_assign) ?_
            dsimp only [put, List.set, ev, nth, List.nil_append, List.cons_append, md, Nat.reducePow, Nat.reduceAdd, Nat.reduceMul]
            refine WL_nil ?_
            refine WC_ret ?_
            refine inB_ret ?_
            refine inB_ret ?_
            refine fin_tmp2 Try.results32 rfl rfl ([e]) (.cons _ (.cons _ (List.Sublist.refl _))) ?_
            exact ⟨v, e, by rw [decide_eq_true hto]; rfl, by unfold pathL; rw [if_pos hto, hix, ← hend]; exact hr.o, rfl⟩
    · have hc0 := of_decide_eq_false hc0
      rw [List.length_map] at hc0
      obtain rfl : i = (srch es F).length := by omega
      have hto : to ∉ (srch es F).map Prod.fst := idx_none (d := 0) fun j hj => hall j (by rwa [List.length_map] at hj)
      refine WC_exit ?_
      refine inB_same ?_
      refine WC_seq ?_
      refine WC_region ?_
      refine WL_det rfl (det_assign) ?_
      dsimp only [put, List.set, ev, nth, List.nil_append, List.cons_append, md, Nat.reducePow, Nat.reduceAdd, Nat.reduceMul]
      refine WL_det rfl (det_assign) ?_
      dsimp only [put, List.set, ev, nth, List.nil_append, List.cons_append, md, Nat.reducePow, Nat.reduceAdd, Nat.reduceMul]
      refine WL_nil ?_
      refine WC_ret ?_
      refine fin_tmp2 Try.results32 rfl rfl ([e1]) (.cons_cons _ (List.nil_sublist _)) ?_
      exact ⟨.slice none 0 0, e1, by rw [decide_eq_false hto]; rfl, by unfold pathL; rw [if_neg hto]; exact RowO.nil _ _, rfl⟩

end Go.Proofs.Ytocmlaloafmfkaa
