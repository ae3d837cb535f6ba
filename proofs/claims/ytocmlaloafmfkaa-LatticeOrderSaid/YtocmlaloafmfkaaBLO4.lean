/- What the claim of this folder needs of its texts, put together by a program of this claim. Conditions: none. -/
import Derived.Test.YtocmlaloafmfkaaProg
import Derived.Test.YtocmlaloafmfkaaBLO3
set_option linter.unusedSectionVars false
set_option linter.unusedSimpArgs false
set_option linter.unusedVariables false
set_option linter.unusedVariables false
namespace Go.Proofs.Ytocmlaloafmfkaa
open Go.MW
theorem mixed : Try.prog.follows .mixedOrders = true := by kernel_rfl
theorem ei3 : (Try.prog.info? 3).map (fun i => (i.zero, i.size, i.bytes)) = some (some (vn .i64 0), 1, 8) := by kernel_rfl
theorem ei9 : (Try.prog.info? 9).map (fun i => (i.zero, i.size, i.bytes)) = some (some (.string ⟨#[]⟩), 1, 16) := by kernel_rfl
/-- A channel that holds these values. -/
def ChE (c room : Nat) (l : List Value) (e : Option Nat × Obj) : Prop := ∃ s r, e = (some c, .chan room l.toArray false s r false)
end Go.Proofs.Ytocmlaloafmfkaa

set_option linter.unusedVariables false
namespace Go.Proofs.Ytocmlaloafmfkaa
open Go.MW
end Go.Proofs.Ytocmlaloafmfkaa

set_option linter.unusedVariables false
namespace Go.Proofs.Ytocmlaloafmfkaa
open Go.MW
end Go.Proofs.Ytocmlaloafmfkaa

set_option linter.unusedVariables false
namespace Go.Proofs.Ytocmlaloafmfkaa
open Go.MW
end Go.Proofs.Ytocmlaloafmfkaa

set_option linter.unusedVariables false
namespace Go.Proofs.Ytocmlaloafmfkaa
open Go.MW
def iv (l : List Int) : List Value := l.map fun x => .int .i64 x
theorem iv_len (l : List Int) : (iv l).length = l.length := by simp [iv]
theorem iv_at (l : List Int) {i : Nat} (h : i < l.length) : (iv l)[i]? = some (.int .i64 (l.getD i 0)) := by simp [iv, h]
theorem iv_snoc (l : List Int) (x : Int) : iv l ++ [.int .i64 x] = iv (l ++ [x]) := by simp [iv]
/-- What a slice of ints reads. -/
def RdZ (w : World) (l : List Int) (v : Value) : Prop := ∃ p c b o, v = .slice p l.length c ∧ (0 < l.length → p = some ⟨b, o, none⟩) ∧ ∀ i, i < l.length → w.cell? ⟨b, o + i, none⟩ = some (.int .i64 (l.getD i 0))
theorem RdL.z {w : World} {l : List Int} {v : Value} (h : RdL w (iv l) v) : RdZ w l v := by
  obtain ⟨p, c, b, o, h1, h2, h3⟩ := h
  rw [iv_len] at h1 h2 h3
  exact ⟨p, c, b, o, h1, h2, fun i hi => by rw [h3 i hi, iv_at l hi]⟩
theorem RowV.z {w0 w : World} {m : Mem} (hw : Has w0 m w) (i : Nat) {e : Option Nat × Obj} (hm : m[i]? = some e) {t : TypeId} {l : List Int} {v : Value} (h : RowV t l.length (fun i => .int .i64 (l.getD i 0)) v e) : RdZ w l v := by
  refine RdL.z ((RowO.ofV h).rd hw i hm |> fun h => ?_)
  have : (List.range l.length).map (fun i => Value.int .i64 (l.getD i 0)) = iv l := by
    apply List.ext_getElem?
    intro j
    by_cases hj : j < l.length
    · rw [iv_at l hj]; simp [hj]
    · rw [List.getElem?_eq_none (by simp; omega), List.getElem?_eq_none (by rw [iv_len]; omega)]
  rwa [this] at h
def pl (n : Int) : Nat := if n < 0 ∨ 2 < n then 0 else n.toNat
theorem list_eq {l1 l2 : List Int} (hl : l1.length = l2.length) (h : ∀ j, j < l1.length → l1.getD j 0 = l2.getD j 0) : l1 = l2 := by
  apply List.ext_getElem? 
  intro i
  by_cases hi : i < l1.length
  · have := h i hi
    simp only [List.getD_eq_getElem?_getD] at this
    rw [List.getElem?_eq_getElem hi, List.getElem?_eq_getElem (by omega)] at this ⊢
    simpa using this
  · rw [List.getElem?_eq_none (by omega), List.getElem?_eq_none (by omega)]

set_option maxRecDepth 100000 in
set_option maxHeartbeats 400000 in
theorem ints_spec (l1 l2 : List Int) (va vb : Value) (hn : l1.length ≤ 1000000) (w : World) (ha : RdZ w l1 va) (hb : RdZ w l2 vb) :
    Calls Try.prog 21 [va, vb].toArray w (PostV w (.bool (decide (l1 = l2)))) := by
  obtain ⟨p1, c1, b1, o1, rfl, hp1, hx1⟩ := ha
  obtain ⟨p2, c2, b2, o2, rfl, hp2, hx2⟩ := hb
  refine calls_of_WC Try.func21 rfl ?_
  simp only [Try.ntmps21, List.length_cons, List.length_nil, Nat.reduceAdd, Nat.reduceSub, List.replicate, List.cons_append, List.nil_append]
  refine WC_seq ?_
  refine WC_region ?_
  refine WL_det rfl (det_assign) ?_
  dsimp only [put, List.set, ev, nth, List.nil_append, List.cons_append, md, Nat.reducePow, Nat.reduceAdd, Nat.reduceMul]
  refine WL_nil ?_
  refine WC_seq ?_
  refine WC_seq ?_
  refine WC_region ?_
  refine WL_det rfl (det_move) ?_
  dsimp only [put, List.set, ev, nth, List.nil_append, List.cons_append, md, Nat.reducePow, Nat.reduceAdd, Nat.reduceMul]
  refine WL_det rfl (det_len Try.underlying43 rfl) ?_
  dsimp only [put, List.set, ev, nth, List.nil_append, List.cons_append, md, Nat.reducePow, Nat.reduceAdd, Nat.reduceMul]
  refine WL_det rfl (det_move) ?_
  dsimp only [put, List.set, ev, nth, List.nil_append, List.cons_append, md, Nat.reducePow, Nat.reduceAdd, Nat.reduceMul]
  refine WL_det rfl (det_len Try.underlying43 rfl) ?_
  dsimp only [put, List.set, ev, nth, List.nil_append, List.cons_append, md, Nat.reducePow, Nat.reduceAdd, Nat.reduceMul]
  refine WL_det rfl (det_neq rfl rfl) ?_
  dsimp only [put, List.set, ev, nth, List.nil_append, List.cons_append, md, Nat.reducePow, Nat.reduceAdd, Nat.reduceMul]
  refine WL_nil ?_
  refine WC_cond rfl (fun hc0 => ?_) (fun hc0 => ?_)
  · have hc0 : ¬ l1.length = l2.length := by simpa using hc0
    refine WC_seq ?_
    refine WC_region ?_
    refine WL_det rfl (det_assign) ?_
    dsimp only [put, List.set, ev, nth, List.nil_append, List.cons_append, md, Nat.reducePow, Nat.reduceAdd, Nat.reduceMul]
    refine WL_nil ?_
    refine WC_ret ?_
    refine fin_tmp Try.results21 rfl ([]) (List.nil_sublist _) ?_
    exact ⟨by first | (rw [decide_eq_false (show ¬ l1 = l2 from fun e => hc0 (by rw [e]))]; rfl) | (rw [decide_eq_false (show ¬ l1 = l2 from fun e => hc2 (by rw [e]))]; rfl) | (rw [decide_eq_true (list_eq hc0 fun j hj => hall j (by omega))]; rfl), rfl⟩
  · have hc0 : l1.length = l2.length := by simpa using hc0
    refine WC_skip ?_
    refine WC_seq ?_
    refine WC_seq ?_
    refine WC_region ?_
    refine WL_det rfl (det_assign) ?_
    dsimp only [put, List.set, ev, nth, List.nil_append, List.cons_append, md, Nat.reducePow, Nat.reduceAdd, Nat.reduceMul]
    refine WL_nil ?_
    refine WC_block ?_
    refine WC_loopS (ι := Nat) [11, 12, 13, 14, 17, 18, 19, 20, 21, 22, 23, 24, 25, 4, 15, 16] (fun i => [(5, vn .i64 (i))]) (fun i => []) (fun i => i ≤ l1.length ∧ ∀ j, j < i → l1.getD j 0 = l2.getD j 0) (fun i => l1.length - i) 0 ?_ ?_ ?_ ?_
    · rfl
    · rfl
    · exact ⟨Nat.zero_le _, fun j hj => absurd hj (Nat.not_lt_zero _)⟩
    · rintro i g' ⟨hi, hall⟩
      dsimp only [setAll, setG, setM, List.set]
      refine WC_seq ?_
      refine WC_seq ?_
      refine WC_region ?_
      refine WL_det rfl (det_move) ?_
      dsimp only [put, List.set, ev, nth, List.nil_append, List.cons_append, md, Nat.reducePow, Nat.reduceAdd, Nat.reduceMul]
      refine WL_det rfl (det_move) ?_
      dsimp only [put, List.set, ev, nth, List.nil_append, List.cons_append, md, Nat.reducePow, Nat.reduceAdd, Nat.reduceMul]
      refine WL_det rfl (det_len Try.underlying43 rfl) ?_
      dsimp only [put, List.set, ev, nth, List.nil_append, List.cons_append, md, Nat.reducePow, Nat.reduceAdd, Nat.reduceMul]
      refine WL_det rfl (det_lss rfl rfl) ?_
      dsimp only [put, List.set, ev, nth, List.nil_append, List.cons_append, md, Nat.reducePow, Nat.reduceAdd, Nat.reduceMul]
      refine WL_nil ?_
      refine WC_cond rfl (fun hc1 => ?_) (fun hc1 => ?_)
      · have hc1 := of_decide_eq_true hc1
        refine WC_skip ?_
        refine WC_seq ?_
        refine WC_block ?_
        refine WC_seq ?_
        refine WC_draw [[], [], [0, 1], [0, 1, 2], [], [], [4, 5], [4, 5, 6], [0, 1, 2, 3, 4, 5, 6, 7]] [] 26 [] (List.nil_sublist _) mixed rfl (by decide) ?_
        refine RW.pure rfl rfl (fun _ => rfl) (fun V hV => det_move) (fun _ _ _ => rfl) ?_
        dsimp only [put, List.set, ev, nth, List.nil_append, List.cons_append, md, Nat.reducePow, Nat.reduceAdd, Nat.reduceMul]
        refine RW.pure rfl rfl (fun _ => rfl) (fun V hV => det_move) (fun _ _ _ => rfl) ?_
        dsimp only [put, List.set, ev, nth, List.nil_append, List.cons_append, md, Nat.reducePow, Nat.reduceAdd, Nat.reduceMul]
        refine RW.pure rfl rfl (fun _ => rfl) (fun V hV => det_idxS Try.underlying43 Try.sizeOf3 rfl rfl (rfl) (by omega) (hp1 (by omega))) (fun _ _ _ => rfl) ?_
        dsimp only [put, List.set, ev, nth, List.nil_append, List.cons_append, md, Nat.reducePow, Nat.reduceAdd, Nat.reduceMul]
        refine RW.det [] rfl rfl rfl rfl (fun _ => rfl) (fun V hV => Det.rel (det_loadF Try.isAgg3 rfl (hx1 _ (by omega)))) (fun _ _ _ => rfl) ?_
        dsimp only [put, List.set, ev, nth, List.nil_append, List.cons_append, md, Nat.reducePow, Nat.reduceAdd, Nat.reduceMul]
        refine RW.pure rfl rfl (fun _ => rfl) (fun V hV => det_move) (fun _ _ _ => rfl) ?_
        dsimp only [put, List.set, ev, nth, List.nil_append, List.cons_append, md, Nat.reducePow, Nat.reduceAdd, Nat.reduceMul]
        refine RW.pure rfl rfl (fun _ => rfl) (fun V hV => det_move) (fun _ _ _ => rfl) ?_
        dsimp only [put, List.set, ev, nth, List.nil_append, List.cons_append, md, Nat.reducePow, Nat.reduceAdd, Nat.reduceMul]
        refine RW.pure rfl rfl (fun _ => rfl) (fun V hV => det_idxS Try.underlying43 Try.sizeOf3 rfl rfl (rfl) (by omega) (hp2 (by omega))) (fun _ _ _ => rfl) ?_
        dsimp only [put, List.set, ev, nth, List.nil_append, List.cons_append, md, Nat.reducePow, Nat.reduceAdd, Nat.reduceMul]
        refine RW.det [] rfl rfl rfl rfl (fun _ => rfl) (fun V hV => Det.rel (det_loadF Try.isAgg3 rfl (hx2 _ (by omega)))) (fun _ _ _ => rfl) ?_
        dsimp only [put, List.set, ev, nth, List.nil_append, List.cons_append, md, Nat.reducePow, Nat.reduceAdd, Nat.reduceMul]
        refine RW.pure rfl rfl (fun _ => rfl) (fun V hV => det_neqz rfl rfl) (fun _ _ _ => rfl) ?_
        dsimp only [put, List.set, ev, nth, List.nil_append, List.cons_append, md, Nat.reducePow, Nat.reduceAdd, Nat.reduceMul]
        refine RW.done (fun V => _ ++ flat [] V) rfl rfl (fun _ => rfl) (fun V hV => ?_)
        try dsimp only [put, blk, flat_nil, List.append_nil, List.append, List.eraseIdx, List.set, ev, nth, List.nil_append, List.cons_append, md, Nat.reducePow, Nat.reduceAdd, Nat.reduceMul]
        refine WC_cond rfl (fun hc2 => ?_) (fun hc2 => ?_)
        · have hc2 : ¬ l1.getD i 0 = l2.getD i 0 := by simpa using hc2
          refine WC_seq ?_
          refine WC_region ?_
          refine WL_det rfl (det_assign) ?_
          dsimp only [put, List.set, ev, nth, List.nil_append, List.cons_append, md, Nat.reducePow, Nat.reduceAdd, Nat.reduceMul]
          refine WL_nil ?_
          refine WC_ret ?_
          refine inB_ret ?_
          refine inB_ret ?_
          refine fin_tmp Try.results21 rfl ([]) (List.nil_sublist _) ?_
          exact ⟨by first | (rw [decide_eq_false (show ¬ l1 = l2 from fun e => hc0 (by rw [e]))]; rfl) | (rw [decide_eq_false (show ¬ l1 = l2 from fun e => hc2 (by rw [e]))]; rfl) | (rw [decide_eq_true (list_eq hc0 fun j hj => hall j (by omega))]; rfl), rfl⟩
        · have hc2 : l1.getD i 0 = l2.getD i 0 := by simpa using hc2
          refine WC_skip ?_
          refine WC_region ?_
          refine WL_det rfl (det_move) ?_
          dsimp only [put, List.set, ev, nth, List.nil_append, List.cons_append, md, Nat.reducePow, Nat.reduceAdd, Nat.reduceMul]
          refine WL_det rfl (det_addi (q := 1) rfl rfl (by omega)) ?_
          dsimp only [put, List.set, ev, nth, List.nil_append, List.cons_append, md, Nat.reducePow, Nat.reduceAdd, Nat.reduceMul]
          refine WL_det rfl (det_assign) ?_
          dsimp only [put, List.set, ev, nth, List.nil_append, List.cons_append, md, Nat.reducePow, Nat.reduceAdd, Nat.reduceMul]
          refine WL_nil ?_
          refine ⟨i + 1, ?_, ?_, ?_, ?_⟩
          · rfl
          · rfl
          · exact ⟨by omega, fun j hj => by rcases Nat.lt_succ_iff_lt_or_eq.1 hj with h | h; exact hall j h; rw [h]; exact hc2⟩
          · omega
      · have hc1 := of_decide_eq_false hc1
        refine WC_exit ?_
        refine inB_same ?_
        refine WC_seq ?_
        refine WC_region ?_
        refine WL_det rfl (det_assign) ?_
        dsimp only [put, List.set, ev, nth, List.nil_append, List.cons_append, md, Nat.reducePow, Nat.reduceAdd, Nat.reduceMul]
        refine WL_nil ?_
        refine WC_ret ?_
        refine fin_tmp Try.results21 rfl ([]) (List.nil_sublist _) ?_
        exact ⟨by first | (rw [decide_eq_false (show ¬ l1 = l2 from fun e => hc0 (by rw [e]))]; rfl) | (rw [decide_eq_false (show ¬ l1 = l2 from fun e => hc2 (by rw [e]))]; rfl) | (rw [decide_eq_true (list_eq hc0 fun j hj => hall j (by omega))]; rfl), rfl⟩

end Go.Proofs.Ytocmlaloafmfkaa
