/- What the claim of this folder needs of its texts, put together by a program of this claim. Conditions: none. -/
import Derived.Test.YtocmlaloafmfkaaBLO15
set_option linter.unusedSectionVars false
set_option linter.unusedSimpArgs false
set_option linter.unusedVariables false
set_option linter.unusedVariables false
set_option linter.unusedSectionVars false
set_option linter.unusedSimpArgs false
namespace Go.Proofs.Ytocmlaloafmfkaa
open Go.MW
/-- A row that begins its block, told by a list. -/
def RowL (t : TypeId) (l : List Value) (v : Value) (e : Option Nat × Obj) : Prop := RowV t l.length (fun i => l.getD i undef) v e
theorem RowL.o {t : TypeId} {l : List Value} {v : Value} {e : Option Nat × Obj} (h : RowL t l v e) : RowO t l v e := by
  have := RowO.ofV h
  have e1 : (List.range l.length).map (fun i => l.getD i undef) = l := by
    apply List.ext_getElem?
    intro i
    by_cases hi : i < l.length
    · simp [hi]
    · rw [List.getElem?_eq_none (by simp; omega), List.getElem?_eq_none (by omega)]
  rwa [e1] at this
theorem srch_len {α : Type} [DecidableEq α] (es : List (α × α)) (F : List α) : ((srch es F).map Prod.fst).length ≤ F.length + 2 * es.length := by
  rw [List.length_map]
  have h3 := stA_len es F (bndA es F)
  have h4 := nodes_len es
  unfold srch
  unfold bndA at *
  omega
end Go.Proofs.Ytocmlaloafmfkaa

set_option linter.unusedVariables false
set_option linter.unusedSectionVars false
set_option linter.unusedSimpArgs false
namespace Go.Proofs.Ytocmlaloafmfkaa
open Go.MW
theorem ei59 : (Try.prog.info? 59).map (fun i => (i.zero, i.size, i.bytes)) = some (some (.agg #[.int .i64 0, .int .i64 0]), 2, 16) := by kernel_rfl
theorem take_memE {L : List (Int × Int)} {q : Nat} (h : q < L.length) (e : Int × Int) : e ∈ L.take (q + 1) ↔ e ∈ L.take q ∨ L.getD q (0, 0) = e := by
  rw [take_mem h]
  constructor
  · rintro (h | h)
    · exact .inl h
    · exact .inr (Prod.ext h.1 h.2)
  · rintro (h | rfl)
    · exact .inl h
    · exact .inr ⟨rfl, rfl⟩
def pe (e : Int × Int) (k : Nat) : Int := if k = 0 then e.1 else e.2
section
variable {P : Program} {w0 : World} {m : Mem} {ρ : Operand → Value} {dst : Option Tmp} {ty : TypeId} {pos : String} {after : Array Edge} {gd : Option (Nat × Bool)} {T : TypeId} {x : Operand} {L : List (Int × Int)} {v : Value}
theorem det_loadPk {j k : Nat} (hk : k < 2) (hg : ∀ w, (isAgg T).run P w = .ok false w) (hx : ρ x = .pointer (some ⟨sbk v, sof v + 2 * j + k, none⟩)) (hr : ∀ w, Has w0 m w → RdP w L v) (h : j < L.length) :
    Det P w0 m ρ ⟨dst, .load T x, ty, pos, after, gd⟩ (.int .i64 (pe (L.getD j (0, 0)) k)) := by
  rcases (by omega : k = 0 ∨ k = 1) with rfl | rfl
  · exact det_loadP0 hg hx hr h
  · exact det_loadP1 hg hx hr h
end
def ndP (N : List Int) (e : Int × Int) (k : Nat) : List Int := if k = 0 then N else if k = 1 then addN N e.1 else addN (addN N e.1) e.2
theorem ndP_step (N : List Int) (e : Int × Int) {k : Nat} (hk : k < 2) : ndP N e (k + 1) = addN (ndP N e k) (pe e k) := by
  rcases (by omega : k = 0 ∨ k = 1) with rfl | rfl <;> rfl
theorem nodes_take {L : List (Int × Int)} {i : Nat} (h : i < L.length) : nodesE (L.take (i + 1)) = ndP (nodesE (L.take i)) (L.getD i (0, 0)) 2 := by
  rw [List.take_succ_eq_append_getElem h, nodes_snoc, List.getD_eq_getElem?_getD, List.getElem?_eq_getElem h]
  rfl
theorem ndP_len (N : List Int) (e : Int × Int) (k : Nat) : (ndP N e k).length ≤ N.length + 2 := by
  unfold ndP
  have h1 := addN_len N e.1
  have h2 := addN_len (addN N e.1) e.2
  split
  · omega
  · split <;> omega

set_option maxRecDepth 100000 in
set_option maxHeartbeats 2000000 in
theorem once_spec (L : List (Int × Int)) (v : Value) (hL : L.length ≤ 1000) (w : World) (hr : RdP w L v) :
    Calls Try.prog 29 [v].toArray w (Post w (fun v m => ∃ e, RowP 59 (onceE L) v e ∧ m = [e])) := by
  refine calls_of_WC Try.func29 rfl ?_
  simp only [Try.ntmps29, List.length_cons, List.length_nil, Nat.reduceAdd, Nat.reduceSub, List.replicate, List.cons_append, List.nil_append]
  refine WC_seq ?_
  refine WC_region ?_
  refine WL_det rfl (det_assign) ?_
  dsimp only [put, List.set, ev, nth, List.nil_append, List.cons_append, md, Nat.reducePow, Nat.reduceAdd, Nat.reduceMul]
  refine WL_nil ?_
  refine WC_seq ?_
  refine WC_region ?_
  refine WL_det rfl (det_assign) ?_
  dsimp only [put, List.set, ev, nth, List.nil_append, List.cons_append, md, Nat.reducePow, Nat.reduceAdd, Nat.reduceMul]
  refine WL_nil ?_
  refine WC_seq ?_
  refine WC_seq ?_
  refine WC_region ?_
  refine WL_det rfl (det_assign) ?_
  dsimp only [put, List.set, ev, nth, List.nil_append, List.cons_append, md, Nat.reducePow, Nat.reduceAdd, Nat.reduceMul]
  refine WL_nil ?_
  refine WC_block ?_
  refine WC.addNone (.cells #[] 59 (0, 0)) ?_
  dsimp only [List.cons_append, List.nil_append]
  refine WC_loopS (ι := Nat × Value × (Option Nat × Obj)) [7, 8, 9, 10, 5, 6, 13, 14, 15, 16, 19, 20, 21, 22, 23, 24, 25, 26, 27, 28, 29, 30, 17, 18, 31, 32, 33, 34, 35, 36, 37, 38, 39, 11, 12] (fun x => [(4, vn .i64 (x.1)), (3, x.2.1)]) (fun x => [(0, x.2.2)]) (fun x => x.1 ≤ L.length ∧ RowP 59 (onceE (L.take x.1)) x.2.1 x.2.2) (fun x => L.length - x.1) (0, .slice none 0 0, (none, .cells #[] 59 (0, 0))) ?_ ?_ ?_ ?_
  · rfl
  · rfl
  · exact ⟨Nat.zero_le _, RowP.nil _ _⟩
  · rintro ⟨i, v1, e1⟩ g' ⟨hi, h1⟩
    dsimp only [setAll, setG, setM, List.set]
    dsimp only at hi h1
    have hQl := once_len (L.take i)
    rw [List.length_take] at hQl
    generalize hQ : onceE (L.take i) = Q at *
    refine WC_seq ?_
    refine WC_seq ?_
    refine WC_region ?_
    refine WL_det rfl (det_move) ?_
    dsimp only [put, List.set, ev, nth, List.nil_append, List.cons_append, md, Nat.reducePow, Nat.reduceAdd, Nat.reduceMul]
    refine WL_det rfl (det_move) ?_
    dsimp only [put, List.set, ev, nth, List.nil_append, List.cons_append, md, Nat.reducePow, Nat.reduceAdd, Nat.reduceMul]
    refine WL_det rfl (det_lenP Try.underlying52 rfl (fun w hw => RdP.far hw hr)) ?_
    dsimp only [put, List.set, ev, nth, List.nil_append, List.cons_append, md, Nat.reducePow, Nat.reduceAdd, Nat.reduceMul]
    refine WL_det rfl (det_lss rfl rfl) ?_
    dsimp only [put, List.set, ev, nth, List.nil_append, List.cons_append, md, Nat.reducePow, Nat.reduceAdd, Nat.reduceMul]
    refine WL_nil ?_
    refine WC_cond rfl (fun hc0 => ?_) (fun hc0 => ?_)
    · have hc0 := of_decide_eq_true hc0
      refine WC_skip ?_
      refine WC_seq ?_
      refine WC_block ?_
      refine WC_seq ?_
      refine WC_region ?_
      refine WL_det rfl (det_assign) ?_
      dsimp only [put, List.set, ev, nth, List.nil_append, List.cons_append, md, Nat.reducePow, Nat.reduceAdd, Nat.reduceMul]
      refine WL_nil ?_
      refine WC_seq ?_
      refine WC_seq ?_
      refine WC_region ?_
      refine WL_det rfl (det_assign) ?_
      dsimp only [put, List.set, ev, nth, List.nil_append, List.cons_append, md, Nat.reducePow, Nat.reduceAdd, Nat.reduceMul]
      refine WL_nil ?_
      refine WC_block ?_
      refine WC_loopS (ι := Nat) [13, 14, 15, 16, 19, 20, 21, 22, 23, 24, 25, 26, 27, 28, 29, 30, 17, 18] (fun k => [(6, vn .i64 (k)), (5, .bool (decide (L.getD i (0, 0) ∈ Q.take k)))]) (fun k => []) (fun k => k ≤ Q.length) (fun k => Q.length - k) 0 ?_ ?_ ?_ ?_
      · rw [show decide (L.getD i (0, 0) ∈ Q.take 0) = false from decide_eq_false (by simp)]
        rfl
      · rfl
      · exact Nat.zero_le _
      · rintro k g'' hk
        dsimp only [setAll, setG, setM, List.set]
        refine WC_seq ?_
        refine WC_seq ?_
        refine WC_region ?_
        refine WL_det rfl (det_move) ?_
        dsimp only [put, List.set, ev, nth, List.nil_append, List.cons_append, md, Nat.reducePow, Nat.reduceAdd, Nat.reduceMul]
        refine WL_det rfl (det_move) ?_
        dsimp only [put, List.set, ev, nth, List.nil_append, List.cons_append, md, Nat.reducePow, Nat.reduceAdd, Nat.reduceMul]
        refine WL_det rfl (det_lenP Try.underlying52 rfl (fun w hw => RowP.rd hw 0 rfl h1)) ?_
        dsimp only [put, List.set, ev, nth, List.nil_append, List.cons_append, md, Nat.reducePow, Nat.reduceAdd, Nat.reduceMul]
        refine WL_det rfl (det_lss rfl rfl) ?_
        dsimp only [put, List.set, ev, nth, List.nil_append, List.cons_append, md, Nat.reducePow, Nat.reduceAdd, Nat.reduceMul]
        refine WL_nil ?_
        refine WC_cond rfl (fun hc1 => ?_) (fun hc1 => ?_)
        · have hc1 := of_decide_eq_true hc1
          refine WC_skip ?_
          refine WC_seq ?_
          refine WC_block ?_
          by_cases hA : L.getD i (0, 0) ∈ Q.take k
          · rw [decide_eq_true hA]
            refine WC_draw [[], [0], [0, 1], [0, 1], [0, 1, 2, 3], [0, 1, 2, 3, 4], [0, 1], [0, 1], [0, 1, 6, 7], [0, 1, 6, 7, 8], [0, 1, 2, 3, 4, 5, 6, 7, 8, 9], [0, 1, 2, 3, 4, 5, 6, 7, 8, 9, 10], [0, 1, 2, 3, 4, 5, 6, 7, 8, 9, 10, 11]] [] 41 [] (List.nil_sublist _) mixed rfl (by decide) ?_
            refine RW.pure rfl rfl (fun _ => rfl) (fun V hV => det_move) (fun _ _ _ => rfl) ?_
            dsimp only [put, List.set, ev, nth, List.nil_append, List.cons_append, md, Nat.reducePow, Nat.reduceAdd, Nat.reduceMul]
            refine RW.pure rfl rfl (fun _ => rfl) (fun V hV => det_move) (fun _ _ _ => rfl) ?_
            dsimp only [put, List.set, ev, nth, List.nil_append, List.cons_append, md, Nat.reducePow, Nat.reduceAdd, Nat.reduceMul]
            refine RW.skip rfl rfl (fun _ => rfl) ?_
            dsimp only [put, List.set, ev, nth, List.nil_append, List.cons_append, md, Nat.reducePow, Nat.reduceAdd, Nat.reduceMul]
            refine RW.skip rfl rfl (fun _ => rfl) ?_
            dsimp only [put, List.set, ev, nth, List.nil_append, List.cons_append, md, Nat.reducePow, Nat.reduceAdd, Nat.reduceMul]
            refine RW.skip rfl rfl (fun _ => rfl) ?_
            dsimp only [put, List.set, ev, nth, List.nil_append, List.cons_append, md, Nat.reducePow, Nat.reduceAdd, Nat.reduceMul]
            refine RW.skip rfl rfl (fun _ => rfl) ?_
            dsimp only [put, List.set, ev, nth, List.nil_append, List.cons_append, md, Nat.reducePow, Nat.reduceAdd, Nat.reduceMul]
            refine RW.skip rfl rfl (fun _ => rfl) ?_
            dsimp only [put, List.set, ev, nth, List.nil_append, List.cons_append, md, Nat.reducePow, Nat.reduceAdd, Nat.reduceMul]
            refine RW.skip rfl rfl (fun _ => rfl) ?_
            dsimp only [put, List.set, ev, nth, List.nil_append, List.cons_append, md, Nat.reducePow, Nat.reduceAdd, Nat.reduceMul]
            refine RW.skip rfl rfl (fun _ => rfl) ?_
            dsimp only [put, List.set, ev, nth, List.nil_append, List.cons_append, md, Nat.reducePow, Nat.reduceAdd, Nat.reduceMul]
            refine RW.skip rfl rfl (fun _ => rfl) ?_
            dsimp only [put, List.set, ev, nth, List.nil_append, List.cons_append, md, Nat.reducePow, Nat.reduceAdd, Nat.reduceMul]
            refine RW.skip rfl rfl (fun _ => rfl) ?_
            dsimp only [put, List.set, ev, nth, List.nil_append, List.cons_append, md, Nat.reducePow, Nat.reduceAdd, Nat.reduceMul]
            refine RW.pure rfl rfl (fun _ => rfl) (fun V hV => Det.bv (decide (L.getD i (0, 0) ∈ Q.take (k + 1))) (det_pick_true rfl) ((decide_eq_true ((take_memE (by omega) _).2 (.inl hA))).symm)) (fun _ _ _ => rfl) ?_
            dsimp only [put, List.set, ev, nth, List.nil_append, List.cons_append, md, Nat.reducePow, Nat.reduceAdd, Nat.reduceMul]
            refine RW.pure rfl rfl (fun _ => rfl) (fun V hV => det_assign) (fun _ _ _ => rfl) ?_
            dsimp only [put, List.set, ev, nth, List.nil_append, List.cons_append, md, Nat.reducePow, Nat.reduceAdd, Nat.reduceMul]
            refine RW.done (fun V => _ ++ flat [] V) rfl rfl (fun _ => rfl) (fun V hV => ?_)
            try dsimp only [put, blk, flat_nil, List.append_nil, List.append, List.eraseIdx, List.set, ev, nth, List.nil_append, List.cons_append, md, Nat.reducePow, Nat.reduceAdd, Nat.reduceMul]
            refine WC_region ?_
            refine WL_det rfl (det_move) ?_
            dsimp only [put, List.set, ev, nth, List.nil_append, List.cons_append, md, Nat.reducePow, Nat.reduceAdd, Nat.reduceMul]
            refine WL_det rfl (det_addi (q := 1) rfl rfl (by omega)) ?_
            dsimp only [put, List.set, ev, nth, List.nil_append, List.cons_append, md, Nat.reducePow, Nat.reduceAdd, Nat.reduceMul]
            refine WL_det rfl (det_assign) ?_
            dsimp only [put, List.set, ev, nth, List.nil_append, List.cons_append, md, Nat.reducePow, Nat.reduceAdd, Nat.reduceMul]
            refine WL_nil ?_
            refine ⟨k + 1, ?_, ?_, ?_, ?_⟩
            · rfl
            · rfl
            · omega
            · omega
          · rw [decide_eq_false hA]
            refine WC_draw [[], [0], [0, 1], [0, 1], [0, 1, 2, 3], [0, 1, 2, 3, 4], [0, 1], [0, 1], [0, 1, 6, 7], [0, 1, 6, 7, 8], [0, 1, 2, 3, 4, 5, 6, 7, 8, 9], [0, 1, 2, 3, 4, 5, 6, 7, 8, 9, 10], [0, 1, 2, 3, 4, 5, 6, 7, 8, 9, 10, 11]] [] 41 [] (List.nil_sublist _) mixed rfl (by decide) ?_
            refine RW.pure rfl rfl (fun _ => rfl) (fun V hV => det_move) (fun _ _ _ => rfl) ?_
            dsimp only [put, List.set, ev, nth, List.nil_append, List.cons_append, md, Nat.reducePow, Nat.reduceAdd, Nat.reduceMul]
            refine RW.pure rfl rfl (fun _ => rfl) (fun V hV => det_move) (fun _ _ _ => rfl) ?_
            dsimp only [put, List.set, ev, nth, List.nil_append, List.cons_append, md, Nat.reducePow, Nat.reduceAdd, Nat.reduceMul]
            refine RW.pure rfl rfl (fun _ => rfl) (fun V hV => det_move) (fun _ _ _ => rfl) ?_
            dsimp only [put, List.set, ev, nth, List.nil_append, List.cons_append, md, Nat.reducePow, Nat.reduceAdd, Nat.reduceMul]
            refine RW.pure rfl rfl (fun _ => rfl) (fun V hV => det_move) (fun _ _ _ => rfl) ?_
            dsimp only [put, List.set, ev, nth, List.nil_append, List.cons_append, md, Nat.reducePow, Nat.reduceAdd, Nat.reduceMul]
            refine RW.det [] rfl rfl rfl rfl (fun _ => rfl) (fun V hV => Det.rel (det_idxP Try.underlying52 Try.sizeOf59 rfl rfl (rfl) (by omega) (fun w hw => RowP.rd hw 0 rfl h1))) (fun _ _ _ => rfl) ?_
            dsimp only [put, List.set, ev, nth, List.nil_append, List.cons_append, md, Nat.reducePow, Nat.reduceAdd, Nat.reduceMul]
            refine RW.det [] rfl rfl rfl rfl (fun _ => rfl) (fun V hV => Det.rel (det_loadP Try.underlying59 rfl i59 rfl (fun w hw => RowP.rd hw 0 rfl h1) (by omega))) (fun _ _ _ => rfl) ?_
            dsimp only [put, List.set, ev, nth, List.nil_append, List.cons_append, md, Nat.reducePow, Nat.reduceAdd, Nat.reduceMul]
            refine RW.pure rfl rfl (fun _ => rfl) (fun V hV => det_move) (fun _ _ _ => rfl) ?_
            dsimp only [put, List.set, ev, nth, List.nil_append, List.cons_append, md, Nat.reducePow, Nat.reduceAdd, Nat.reduceMul]
            refine RW.pure rfl rfl (fun _ => rfl) (fun V hV => det_move) (fun _ _ _ => rfl) ?_
            dsimp only [put, List.set, ev, nth, List.nil_append, List.cons_append, md, Nat.reducePow, Nat.reduceAdd, Nat.reduceMul]
            refine RW.det [] rfl rfl rfl rfl (fun _ => rfl) (fun V hV => Det.rel (det_idxP Try.underlying52 Try.sizeOf59 rfl rfl (rfl) (by omega) (fun w hw => RdP.far hw hr))) (fun _ _ _ => rfl) ?_
            dsimp only [put, List.set, ev, nth, List.nil_append, List.cons_append, md, Nat.reducePow, Nat.reduceAdd, Nat.reduceMul]
            refine RW.det [] rfl rfl rfl rfl (fun _ => rfl) (fun V hV => Det.rel (det_loadP Try.underlying59 rfl i59 rfl (fun w hw => RdP.far hw hr) (by omega))) (fun _ _ _ => rfl) ?_
            dsimp only [put, List.set, ev, nth, List.nil_append, List.cons_append, md, Nat.reducePow, Nat.reduceAdd, Nat.reduceMul]
            refine RW.pure rfl rfl (fun _ => rfl) (fun V hV => Det.bv (decide (L.getD i (0, 0) ∈ Q.take (k + 1))) (det_eqlP Try.underlying59 Try.sizeOf3 Try.isAgg3 Try.underlying3 Try.eqGuardType59 rfl rfl) (decide_eq_decide.2 ⟨fun h => (take_memE (by omega) _).2 (.inr h), fun h => ((take_memE (by omega) _).1 h).resolve_left hA⟩)) (fun _ _ _ => rfl) ?_
            dsimp only [put, List.set, ev, nth, List.nil_append, List.cons_append, md, Nat.reducePow, Nat.reduceAdd, Nat.reduceMul]
            refine RW.pure rfl rfl (fun _ => rfl) (fun V hV => det_pick_false rfl) (fun _ _ _ => rfl) ?_
            dsimp only [put, List.set, ev, nth, List.nil_append, List.cons_append, md, Nat.reducePow, Nat.reduceAdd, Nat.reduceMul]
            refine RW.pure rfl rfl (fun _ => rfl) (fun V hV => det_assign) (fun _ _ _ => rfl) ?_
            dsimp only [put, List.set, ev, nth, List.nil_append, List.cons_append, md, Nat.reducePow, Nat.reduceAdd, Nat.reduceMul]
            refine RW.done (fun V => _ ++ flat [] V) rfl rfl (fun _ => rfl) (fun V hV => ?_)
            try dsimp only [put, blk, flat_nil, List.append_nil, List.append, List.eraseIdx, List.set, ev, nth, List.nil_append, List.cons_append, md, Nat.reducePow, Nat.reduceAdd, Nat.reduceMul]
            refine WC_region ?_
            refine WL_det rfl (det_move) ?_
            dsimp only [put, List.set, ev, nth, List.nil_append, List.cons_append, md, Nat.reducePow, Nat.reduceAdd, Nat.reduceMul]
            refine WL_det rfl (det_addi (q := 1) rfl rfl (by omega)) ?_
            dsimp only [put, List.set, ev, nth, List.nil_append, List.cons_append, md, Nat.reducePow, Nat.reduceAdd, Nat.reduceMul]
            refine WL_det rfl (det_assign) ?_
            dsimp only [put, List.set, ev, nth, List.nil_append, List.cons_append, md, Nat.reducePow, Nat.reduceAdd, Nat.reduceMul]
            refine WL_nil ?_
            refine ⟨k + 1, ?_, ?_, ?_, ?_⟩
            · rfl
            · rfl
            · omega
            · omega
        · have hc1 := of_decide_eq_false hc1
          obtain rfl : k = Q.length := by omega
          rw [List.take_length]
          refine WC_exit ?_
          refine inB_same ?_
          refine WC_seq ?_
          refine WC_region ?_
          refine WL_det rfl (det_move) ?_
          dsimp only [put, List.set, ev, nth, List.nil_append, List.cons_append, md, Nat.reducePow, Nat.reduceAdd, Nat.reduceMul]
          refine WL_det rfl (det_not rfl) ?_
          dsimp only [put, List.set, ev, nth, List.nil_append, List.cons_append, md, Nat.reducePow, Nat.reduceAdd, Nat.reduceMul]
          refine WL_nil ?_
          refine WC_cond rfl (fun hc2 => ?_) (fun hc2 => ?_)
          · have hx : L.getD i (0, 0) ∉ Q := by simpa using hc2
            refine WC_region ?_
            refine WL_det rfl (det_move) ?_
            dsimp only [put, List.set, ev, nth, List.nil_append, List.cons_append, md, Nat.reducePow, Nat.reduceAdd, Nat.reduceMul]
            refine WL_det rfl (det_move) ?_
            dsimp only [put, List.set, ev, nth, List.nil_append, List.cons_append, md, Nat.reducePow, Nat.reduceAdd, Nat.reduceMul]
            refine WL_det rfl (det_move) ?_
            dsimp only [put, List.set, ev, nth, List.nil_append, List.cons_append, md, Nat.reducePow, Nat.reduceAdd, Nat.reduceMul]
            refine WL_det rfl (det_idxP Try.underlying52 Try.sizeOf59 rfl rfl (rfl) (by omega) (fun w hw => RdP.far hw hr)) ?_
            dsimp only [put, List.set, ev, nth, List.nil_append, List.cons_append, md, Nat.reducePow, Nat.reduceAdd, Nat.reduceMul]
            refine WL_det rfl (det_loadP Try.underlying59 rfl i59 rfl (fun w hw => RdP.far hw hr) (by omega)) ?_
            dsimp only [put, List.set, ev, nth, List.nil_append, List.cons_append, md, Nat.reducePow, Nat.reduceAdd, Nat.reduceMul]
            refine WL_rel rfl (rel_litN 2 (c := (pk (L.getD i (0, 0))).toArray) Try.underlying52 Try.zeroValue59 Try.sizeOf59 (by decide) (by decide) (by kernel_rfl)) ?_
            rintro _ _ ⟨b1, rfl, rfl⟩
            dsimp only [put, List.set, ev, nth, List.nil_append, List.cons_append, md, Nat.reducePow, Nat.reduceAdd, Nat.reduceMul]
            refine WL_chg rfl (chg_appendP 0 1 rfl (h1) rfl rfl rfl Try.underlying52 ei59 rfl (by omega) (by decide)) ?_
            rintro v39 _ ⟨e39, hr39, rfl⟩
            dsimp only [put, List.eraseIdx, List.set, ev, nth, List.nil_append, List.cons_append, md, Nat.reducePow, Nat.reduceAdd, Nat.reduceMul]
            have hr39 : RowP 59 (onceE (L.take (i + 1))) v39 e39 := by rw [once_take (by omega), hQ, addE, if_neg hx]; exact hr39
            refine WL_det rfl (det_assign) ?_
            dsimp only [put, List.set, ev, nth, List.nil_append, List.cons_append, md, Nat.reducePow, Nat.reduceAdd, Nat.reduceMul]
            refine WL_nil ?_
            refine WC_region ?_
            refine WL_det rfl (det_move) ?_
            dsimp only [put, List.set, ev, nth, List.nil_append, List.cons_append, md, Nat.reducePow, Nat.reduceAdd, Nat.reduceMul]
            refine WL_det rfl (det_addi (q := 1) rfl rfl (by omega)) ?_
            dsimp only [put, List.set, ev, nth, List.nil_append, List.cons_append, md, Nat.reducePow, Nat.reduceAdd, Nat.reduceMul]
            refine WL_det rfl (det_assign) ?_
            dsimp only [put, List.set, ev, nth, List.nil_append, List.cons_append, md, Nat.reducePow, Nat.reduceAdd, Nat.reduceMul]
            refine WL_nil ?_
            refine ⟨(i + 1, v39, e39), ?_, ?_, ?_, ?_⟩
            · rfl
            · rfl
            · exact ⟨by dsimp only; omega, hr39⟩
            · dsimp only; omega
          · have hx : L.getD i (0, 0) ∈ Q := by simpa using hc2
            have h1 : RowP 59 (onceE (L.take (i + 1))) v1 e1 := by rw [once_take (by omega), hQ, addE, if_pos hx]; exact h1
            obtain ⟨v39, hq⟩ : ∃ v, v = v1 := ⟨_, rfl⟩
            subst hq
            obtain ⟨e39, hq⟩ : ∃ v, v = e1 := ⟨_, rfl⟩
            subst hq
            have hr39 := h1
            refine WC_skip ?_
            refine WC_region ?_
            refine WL_det rfl (det_move) ?_
            dsimp only [put, List.set, ev, nth, List.nil_append, List.cons_append, md, Nat.reducePow, Nat.reduceAdd, Nat.reduceMul]
            refine WL_det rfl (det_addi (q := 1) rfl rfl (by omega)) ?_
            dsimp only [put, List.set, ev, nth, List.nil_append, List.cons_append, md, Nat.reducePow, Nat.reduceAdd, Nat.reduceMul]
            refine WL_det rfl (det_assign) ?_
            dsimp only [put, List.set, ev, nth, List.nil_append, List.cons_append, md, Nat.reducePow, Nat.reduceAdd, Nat.reduceMul]
            refine WL_nil ?_
            refine ⟨(i + 1, v39, e39), ?_, ?_, ?_, ?_⟩
            · rfl
            · rfl
            · exact ⟨by dsimp only; omega, hr39⟩
            · dsimp only; omega
    · have hc0 := of_decide_eq_false hc0
      obtain rfl : i = L.length := by omega
      rw [List.take_length] at hQ
      refine WC_exit ?_
      refine inB_same ?_
      refine WC_seq ?_
      refine WC_region ?_
      refine WL_det rfl (det_move) ?_
      dsimp only [put, List.set, ev, nth, List.nil_append, List.cons_append, md, Nat.reducePow, Nat.reduceAdd, Nat.reduceMul]
      refine WL_det rfl (det_assign) ?_
      dsimp only [put, List.set, ev, nth, List.nil_append, List.cons_append, md, Nat.reducePow, Nat.reduceAdd, Nat.reduceMul]
      refine WL_nil ?_
      refine WC_ret ?_
      refine fin_tmp Try.results29 rfl ([e1]) (List.Sublist.refl _) ?_
      exact ⟨e1, by rw [hQ]; exact h1, rfl⟩

set_option maxRecDepth 100000 in
set_option maxHeartbeats 2000000 in
theorem nodes_spec (L : List (Int × Int)) (v : Value) (hL : L.length ≤ 1000) (w : World) (hr : RdP w L v) :
    Calls Try.prog 33 [v].toArray w (Post w (fun v m => ∃ e, RowO 3 (iv (nodesE L)) v e ∧ m = [e])) := by
  refine calls_of_WC Try.func33 rfl ?_
  simp only [Try.ntmps33, List.length_cons, List.length_nil, Nat.reduceAdd, Nat.reduceSub, List.replicate, List.cons_append, List.nil_append]
  refine WC_seq ?_
  refine WC_region ?_
  refine WL_det rfl (det_assign) ?_
  dsimp only [put, List.set, ev, nth, List.nil_append, List.cons_append, md, Nat.reducePow, Nat.reduceAdd, Nat.reduceMul]
  refine WL_nil ?_
  refine WC_seq ?_
  refine WC_region ?_
  refine WL_det rfl (det_assign) ?_
  dsimp only [put, List.set, ev, nth, List.nil_append, List.cons_append, md, Nat.reducePow, Nat.reduceAdd, Nat.reduceMul]
  refine WL_nil ?_
  refine WC_seq ?_
  refine WC_seq ?_
  refine WC_region ?_
  refine WL_det rfl (det_assign) ?_
  dsimp only [put, List.set, ev, nth, List.nil_append, List.cons_append, md, Nat.reducePow, Nat.reduceAdd, Nat.reduceMul]
  refine WL_nil ?_
  refine WC_block ?_
  refine WC.addNone (.cells #[] 3 (0, 0)) ?_
  dsimp only [List.cons_append, List.nil_append]
  refine WC_loopS (ι := Nat × Value × (Option Nat × Obj)) [6, 7, 8, 9, 5, 12, 13, 16, 17, 18, 19, 20, 21, 22, 23, 24, 25, 26, 27, 28, 29, 30, 31, 32, 33, 14, 15, 10, 11] (fun x => [(4, vn .i64 (x.1)), (3, x.2.1)]) (fun x => [(0, x.2.2)]) (fun x => x.1 ≤ L.length ∧ RowO 3 (iv (nodesE (L.take x.1))) x.2.1 x.2.2) (fun x => L.length - x.1) (0, .slice none 0 0, (none, .cells #[] 3 (0, 0))) ?_ ?_ ?_ ?_
  · rfl
  · rfl
  · exact ⟨Nat.zero_le _, RowO.nil _ _⟩
  · rintro ⟨i, v1, e1⟩ g' ⟨hi, h1⟩
    dsimp only [setAll, setG, setM, List.set]
    dsimp only at hi h1
    have hQl := nodes_len (L.take i)
    rw [List.length_take] at hQl
    generalize hN : nodesE (L.take i) = N at *
    refine WC_seq ?_
    refine WC_seq ?_
    refine WC_region ?_
    refine WL_det rfl (det_move) ?_
    dsimp only [put, List.set, ev, nth, List.nil_append, List.cons_append, md, Nat.reducePow, Nat.reduceAdd, Nat.reduceMul]
    refine WL_det rfl (det_move) ?_
    dsimp only [put, List.set, ev, nth, List.nil_append, List.cons_append, md, Nat.reducePow, Nat.reduceAdd, Nat.reduceMul]
    refine WL_det rfl (det_lenP Try.underlying52 rfl (fun w hw => RdP.far hw hr)) ?_
    dsimp only [put, List.set, ev, nth, List.nil_append, List.cons_append, md, Nat.reducePow, Nat.reduceAdd, Nat.reduceMul]
    refine WL_det rfl (det_lss rfl rfl) ?_
    dsimp only [put, List.set, ev, nth, List.nil_append, List.cons_append, md, Nat.reducePow, Nat.reduceAdd, Nat.reduceMul]
    refine WL_nil ?_
    refine WC_cond rfl (fun hc0 => ?_) (fun hc0 => ?_)
    · have hc0 := of_decide_eq_true hc0
      refine WC_skip ?_
      refine WC_seq ?_
      refine WC_block ?_
      refine WC_seq ?_
      refine WC_region ?_
      refine WL_det rfl (det_assign) ?_
      dsimp only [put, List.set, ev, nth, List.nil_append, List.cons_append, md, Nat.reducePow, Nat.reduceAdd, Nat.reduceMul]
      refine WL_nil ?_
      refine WC_block ?_
      refine WC_loopS (ι := Nat × Value × (Option Nat × Obj)) [12, 13, 16, 17, 18, 19, 20, 21, 22, 23, 24, 25, 26, 27, 28, 29, 30, 31, 32, 33, 14, 15] (fun x => [(5, vn .i64 (x.1)), (3, x.2.1)]) (fun x => [(0, x.2.2)]) (fun x => x.1 ≤ 2 ∧ RowO 3 (iv (ndP N (L.getD i (0, 0)) x.1)) x.2.1 x.2.2) (fun x => 2 - x.1) (0, v1, e1) ?_ ?_ ?_ ?_
      · rfl
      · rfl
      · exact ⟨Nat.zero_le _, h1⟩
      · rintro ⟨k, v2, e2⟩ g'' ⟨hk, h2⟩
        dsimp only [setAll, setG, setM, List.set]
        dsimp only at hk h2
        have hndl := ndP_len N (L.getD i (0, 0)) k
        refine WC_seq ?_
        refine WC_seq ?_
        refine WC_region ?_
        refine WL_det rfl (det_move) ?_
        dsimp only [put, List.set, ev, nth, List.nil_append, List.cons_append, md, Nat.reducePow, Nat.reduceAdd, Nat.reduceMul]
        refine WL_det rfl (det_lss (q := 2) rfl rfl) ?_
        dsimp only [put, List.set, ev, nth, List.nil_append, List.cons_append, md, Nat.reducePow, Nat.reduceAdd, Nat.reduceMul]
        refine WL_nil ?_
        refine WC_cond rfl (fun hc1 => ?_) (fun hc1 => ?_)
        · have hc1 := of_decide_eq_true hc1
          refine WC_skip ?_
          refine WC_seq ?_
          refine WC_block ?_
          refine WC_seq ?_
          refine WC_region ?_
          refine WL_det rfl (det_move) ?_
          dsimp only [put, List.set, ev, nth, List.nil_append, List.cons_append, md, Nat.reducePow, Nat.reduceAdd, Nat.reduceMul]
          refine WL_det rfl (det_move) ?_
          dsimp only [put, List.set, ev, nth, List.nil_append, List.cons_append, md, Nat.reducePow, Nat.reduceAdd, Nat.reduceMul]
          refine WL_det rfl (det_move) ?_
          dsimp only [put, List.set, ev, nth, List.nil_append, List.cons_append, md, Nat.reducePow, Nat.reduceAdd, Nat.reduceMul]
          refine WL_det rfl (det_move) ?_
          dsimp only [put, List.set, ev, nth, List.nil_append, List.cons_append, md, Nat.reducePow, Nat.reduceAdd, Nat.reduceMul]
          refine WL_det rfl (det_idxP Try.underlying52 Try.sizeOf59 rfl rfl (rfl) (by omega) (fun w hw => RdP.far hw hr)) ?_
          dsimp only [put, List.set, ev, nth, List.nil_append, List.cons_append, md, Nat.reducePow, Nat.reduceAdd, Nat.reduceMul]
          refine WL_det rfl (det_idxAo (j := k) Try.underlying59 Try.sizeOf3 rfl rfl (rfl) (by omega)) ?_
          dsimp only [put, List.set, ev, nth, List.nil_append, List.cons_append, md, Nat.reducePow, Nat.reduceAdd, Nat.reduceMul]
          refine WL_det rfl (det_loadPk (k := k) (by omega) Try.isAgg3 rfl (fun w hw => RdP.far hw hr) (by omega)) ?_
          dsimp only [put, List.set, ev, nth, List.nil_append, List.cons_append, md, Nat.reducePow, Nat.reduceAdd, Nat.reduceMul]
          refine WL_rel rfl (Rel_call rfl Try.call26 (fun w hw => in_spec (ndP N (L.getD i (0, 0)) k) (pe (L.getD i (0, 0)) k) v2 (by omega) w (RowO.rd hw 0 rfl h2))) ?_
          rintro _ _ ⟨rfl, rfl⟩
          dsimp only [put, List.append_nil, List.set, ev, nth, List.nil_append, List.cons_append, md, Nat.reducePow, Nat.reduceAdd, Nat.reduceMul]
          refine WL_det rfl (det_not rfl) ?_
          dsimp only [put, List.set, ev, nth, List.nil_append, List.cons_append, md, Nat.reducePow, Nat.reduceAdd, Nat.reduceMul]
          refine WL_nil ?_
          refine WC_cond rfl (fun hc2 => ?_) (fun hc2 => ?_)
          · have hx : pe (L.getD i (0, 0)) k ∉ ndP N (L.getD i (0, 0)) k := by simpa using hc2
            refine WC_region ?_
            refine WL_det rfl (det_move) ?_
            dsimp only [put, List.set, ev, nth, List.nil_append, List.cons_append, md, Nat.reducePow, Nat.reduceAdd, Nat.reduceMul]
            refine WL_det rfl (det_move) ?_
            dsimp only [put, List.set, ev, nth, List.nil_append, List.cons_append, md, Nat.reducePow, Nat.reduceAdd, Nat.reduceMul]
            refine WL_det rfl (det_move) ?_
            dsimp only [put, List.set, ev, nth, List.nil_append, List.cons_append, md, Nat.reducePow, Nat.reduceAdd, Nat.reduceMul]
            refine WL_det rfl (det_move) ?_
            dsimp only [put, List.set, ev, nth, List.nil_append, List.cons_append, md, Nat.reducePow, Nat.reduceAdd, Nat.reduceMul]
            refine WL_det rfl (det_idxP Try.underlying52 Try.sizeOf59 rfl rfl (rfl) (by omega) (fun w hw => RdP.far hw hr)) ?_
            dsimp only [put, List.set, ev, nth, List.nil_append, List.cons_append, md, Nat.reducePow, Nat.reduceAdd, Nat.reduceMul]
            refine WL_det rfl (det_idxAo (j := k) Try.underlying59 Try.sizeOf3 rfl rfl (rfl) (by omega)) ?_
            dsimp only [put, List.set, ev, nth, List.nil_append, List.cons_append, md, Nat.reducePow, Nat.reduceAdd, Nat.reduceMul]
            refine WL_det rfl (det_loadPk (k := k) (by omega) Try.isAgg3 rfl (fun w hw => RdP.far hw hr) (by omega)) ?_
            dsimp only [put, List.set, ev, nth, List.nil_append, List.cons_append, md, Nat.reducePow, Nat.reduceAdd, Nat.reduceMul]
            refine WL_rel rfl (rel_lit1 Try.underlying43 Try.zeroValue3 Try.sizeOf3 rfl rfl) ?_
            rintro _ _ ⟨bl, rfl, rfl⟩
            dsimp only [put, List.set, ev, nth, List.nil_append, List.cons_append, md, Nat.reducePow, Nat.reduceAdd, Nat.reduceMul]
            refine WL_chg rfl (chg_appendO1 0 1 rfl (by decide) (h2) rfl rfl rfl rfl Try.underlying43 ei3 rfl (by rw [iv_len]; omega) (by decide)) ?_
            rintro v33 _ ⟨e33, hr33, rfl⟩
            dsimp only [put, List.eraseIdx, List.set, ev, nth, List.nil_append, List.cons_append, md, Nat.reducePow, Nat.reduceAdd, Nat.reduceMul]
            rw [iv_snoc] at hr33
            rw [show ndP N (L.getD i (0, 0)) k ++ [pe (L.getD i (0, 0)) k] = ndP N (L.getD i (0, 0)) (k + 1) by rw [ndP_step _ _ (by omega), addN, if_neg hx]] at hr33
            refine WL_det rfl (det_assign) ?_
            dsimp only [put, List.set, ev, nth, List.nil_append, List.cons_append, md, Nat.reducePow, Nat.reduceAdd, Nat.reduceMul]
            refine WL_nil ?_
            refine WC_region ?_
            refine WL_det rfl (det_move) ?_
            dsimp only [put, List.set, ev, nth, List.nil_append, List.cons_append, md, Nat.reducePow, Nat.reduceAdd, Nat.reduceMul]
            refine WL_det rfl (det_addi (q := 1) rfl rfl (by omega)) ?_
            dsimp only [put, List.set, ev, nth, List.nil_append, List.cons_append, md, Nat.reducePow, Nat.reduceAdd, Nat.reduceMul]
            refine WL_det rfl (det_assign) ?_
            dsimp only [put, List.set, ev, nth, List.nil_append, List.cons_append, md, Nat.reducePow, Nat.reduceAdd, Nat.reduceMul]
            refine WL_nil ?_
            refine ⟨(k + 1, v33, e33), ?_, ?_, ?_, ?_⟩
            · rfl
            · rfl
            · exact ⟨by dsimp only; omega, hr33⟩
            · dsimp only; omega
          · have hx : pe (L.getD i (0, 0)) k ∈ ndP N (L.getD i (0, 0)) k := by simpa using hc2
            have h2 : RowO 3 (iv (ndP N (L.getD i (0, 0)) (k + 1))) v2 e2 := by rw [ndP_step _ _ (by omega), addN, if_pos hx]; exact h2
            obtain ⟨v33, hq⟩ : ∃ v, v = v2 := ⟨_, rfl⟩
            subst hq
            obtain ⟨e33, hq⟩ : ∃ v, v = e2 := ⟨_, rfl⟩
            subst hq
            have hr33 := h2
            refine WC_skip ?_
            refine WC_region ?_
            refine WL_det rfl (det_move) ?_
            dsimp only [put, List.set, ev, nth, List.nil_append, List.cons_append, md, Nat.reducePow, Nat.reduceAdd, Nat.reduceMul]
            refine WL_det rfl (det_addi (q := 1) rfl rfl (by omega)) ?_
            dsimp only [put, List.set, ev, nth, List.nil_append, List.cons_append, md, Nat.reducePow, Nat.reduceAdd, Nat.reduceMul]
            refine WL_det rfl (det_assign) ?_
            dsimp only [put, List.set, ev, nth, List.nil_append, List.cons_append, md, Nat.reducePow, Nat.reduceAdd, Nat.reduceMul]
            refine WL_nil ?_
            refine ⟨(k + 1, v33, e33), ?_, ?_, ?_, ?_⟩
            · rfl
            · rfl
            · exact ⟨by dsimp only; omega, hr33⟩
            · dsimp only; omega
        · have hc1 := of_decide_eq_false hc1
          obtain rfl : k = 2 := by omega
          refine WC_exit ?_
          refine inB_same ?_
          refine WC_region ?_
          refine WL_det rfl (det_move) ?_
          dsimp only [put, List.set, ev, nth, List.nil_append, List.cons_append, md, Nat.reducePow, Nat.reduceAdd, Nat.reduceMul]
          refine WL_det rfl (det_addi (q := 1) rfl rfl (by omega)) ?_
          dsimp only [put, List.set, ev, nth, List.nil_append, List.cons_append, md, Nat.reducePow, Nat.reduceAdd, Nat.reduceMul]
          refine WL_det rfl (det_assign) ?_
          dsimp only [put, List.set, ev, nth, List.nil_append, List.cons_append, md, Nat.reducePow, Nat.reduceAdd, Nat.reduceMul]
          refine WL_nil ?_
          refine ⟨(i + 1, v2, e2), ?_, ?_, ?_, ?_⟩
          · rfl
          · rfl
          · exact ⟨by dsimp only; omega, by rw [nodes_take (by omega), hN]; exact h2⟩
          · dsimp only; omega
    · have hc0 := of_decide_eq_false hc0
      obtain rfl : i = L.length := by omega
      rw [List.take_length] at hN
      refine WC_exit ?_
      refine inB_same ?_
      refine WC_seq ?_
      refine WC_region ?_
      refine WL_det rfl (det_move) ?_
      dsimp only [put, List.set, ev, nth, List.nil_append, List.cons_append, md, Nat.reducePow, Nat.reduceAdd, Nat.reduceMul]
      refine WL_det rfl (det_assign) ?_
      dsimp only [put, List.set, ev, nth, List.nil_append, List.cons_append, md, Nat.reducePow, Nat.reduceAdd, Nat.reduceMul]
      refine WL_nil ?_
      refine WC_ret ?_
      refine fin_tmp Try.results33 rfl ([e1]) (List.Sublist.refl _) ?_
      exact ⟨e1, by rw [hN]; exact h1, rfl⟩

end Go.Proofs.Ytocmlaloafmfkaa
