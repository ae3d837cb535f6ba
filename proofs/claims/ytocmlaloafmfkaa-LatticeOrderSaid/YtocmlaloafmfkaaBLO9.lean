/- What the claim of this folder needs of its texts, put together by a program of this claim. Conditions: none. -/
import Derived.Test.YtocmlaloafmfkaaBLO8
set_option linter.unusedSectionVars false
set_option linter.unusedSimpArgs false
set_option linter.unusedVariables false
set_option linter.unusedVariables false
namespace Go.Proofs.Ytocmlaloafmfkaa
open Go.MW
section
variable {α : Type} [DecidableEq α]
theorem addN_ge (L : List α) (x : α) : L.length ≤ (addN L x).length := by unfold addN; split <;> simp
theorem addN_idx_lt (L : List α) (a b : α) : (addN L a).idxOf a < (addN (addN L a) b).length :=
  Nat.lt_of_lt_of_le (List.idxOf_lt_length_iff.2 (addN_mem L a)) (addN_ge _ _)
variable {Kk : KeyK α} {te tg gb mb : Nat} {nv' ov : Value} {rv : Nat → Value} {N : List α} {O : Nat → List Nat} {c : Nat} {w : World}
theorem hflt {w0 w : World} {m : Mem} {V : Sel} (hw : Has w0 (m ++ flat [] V) w) : Has w0 m w := by simpa only [flat_nil, List.append_nil] using hw
theorem GFv.c1 (h : GFv Kk tg gb mb nv' ov rv N O c w) : w.cell? ⟨gb, 1, none⟩ = some nv' := by simp [World.cell?, h.1]
theorem GFv.c3 (h : GFv Kk tg gb mb nv' ov rv N O c w) : w.cell? ⟨gb, 3, none⟩ = some (vn .i64 c) := by simp [World.cell?, h.1]
theorem GFv.n (h : GFv Kk tg gb mb nv' ov rv N O c w) : RdL w (kvs Kk N) nv' := h.2.2.1
end

theorem hasI_true (gb : Nat) (N : List Int) (O : Nat → List Nat) (c : Nat) (hN : N.length ≤ 1000) (hO : ∀ i, (O i).length ≤ 1000) (a b : Int) (h : hasB N O a b = true) (w : World) (hG : GF intK 103 gb N O c w) : Calls Try.prog 54 #[.pointer (some ⟨gb, 0, none⟩), .int .i64 a, .int .i64 b] w (PostV w (.bool true)) := h ▸ hasI_spec gb N O c hN hO a b w hG
theorem hasI_false (gb : Nat) (N : List Int) (O : Nat → List Nat) (c : Nat) (hN : N.length ≤ 1000) (hO : ∀ i, (O i).length ≤ 1000) (a b : Int) (h : hasB N O a b = false) (w : World) (hG : GF intK 103 gb N O c w) : Calls Try.prog 54 #[.pointer (some ⟨gb, 0, none⟩), .int .i64 a, .int .i64 b] w (PostV w (.bool false)) := h ▸ hasI_spec gb N O c hN hO a b w hG

set_option maxRecDepth 100000 in
set_option maxHeartbeats 400000 in
theorem edgeI_no (a b : Int) (w : World) :
    Calls Try.prog 28 [.pointer none, .int .i64 a, .int .i64 b].toArray w (PostV w (vn .i64 1)) := by
  refine calls_of_WC Try.func28 rfl ?_
  simp only [Try.ntmps28, List.length_cons, List.length_nil, Nat.reduceAdd, Nat.reduceSub, List.replicate, List.cons_append, List.nil_append]
  refine WC_seq ?_
  refine WC_region ?_
  refine WL_det rfl (det_assign) ?_
  dsimp only [put, List.set, ev, nth, List.nil_append, List.cons_append, md, Nat.reducePow, Nat.reduceAdd, Nat.reduceMul]
  refine WL_nil ?_
  refine WC_seq ?_
  refine WC_block ?_
  refine WC_seq ?_
  refine WC_region ?_
  refine WL_det rfl (det_move) ?_
  dsimp only [put, List.set, ev, nth, List.nil_append, List.cons_append, md, Nat.reducePow, Nat.reduceAdd, Nat.reduceMul]
  refine WL_rel rfl (Rel_call rfl Try.call53 (fun w hw => isG_no w)) ?_
  rintro _ _ ⟨rfl, rfl⟩
  dsimp only [put, List.append_nil, List.set, ev, nth, List.nil_append, List.cons_append, md, Nat.reducePow, Nat.reduceAdd, Nat.reduceMul]
  refine WL_det rfl (det_not rfl) ?_
  dsimp only [put, List.set, ev, nth, List.nil_append, List.cons_append, md, Nat.reducePow, Nat.reduceAdd, Nat.reduceMul]
  refine WL_det rfl (det_assign) ?_
  dsimp only [put, List.set, ev, nth, List.nil_append, List.cons_append, md, Nat.reducePow, Nat.reduceAdd, Nat.reduceMul]
  refine WL_nil ?_
  refine WC_cond_true rfl ?_
  refine WC_seq ?_
  refine WC_region ?_
  refine WL_det rfl (det_assign) ?_
  dsimp only [put, List.set, ev, nth, List.nil_append, List.cons_append, md, Nat.reducePow, Nat.reduceAdd, Nat.reduceMul]
  refine WL_nil ?_
  refine WC_ret ?_
  refine inB_ret ?_
  refine fin_tmp Try.results28 rfl ([]) (List.nil_sublist _) ?_
  exact ⟨rfl, rfl⟩

set_option maxRecDepth 100000 in
set_option maxHeartbeats 400000 in
theorem edgeI_old (gb : Nat) (N : List Int) (O : Nat → List Nat) (c : Nat) (hN : N.length ≤ 1000) (hO : ∀ i, (O i).length ≤ 1000) (a b : Int) (hab : hasB N O a b = true) (w : World) (hG : GF intK 103 gb N O c w) :
    Calls Try.prog 28 [.pointer (some ⟨gb, 0, none⟩), .int .i64 a, .int .i64 b].toArray w (PostV w (vn .i64 0)) := by
  refine calls_of_WC Try.func28 rfl ?_
  simp only [Try.ntmps28, List.length_cons, List.length_nil, Nat.reduceAdd, Nat.reduceSub, List.replicate, List.cons_append, List.nil_append]
  refine WC_seq ?_
  refine WC_region ?_
  refine WL_det rfl (det_assign) ?_
  dsimp only [put, List.set, ev, nth, List.nil_append, List.cons_append, md, Nat.reducePow, Nat.reduceAdd, Nat.reduceMul]
  refine WL_nil ?_
  refine WC_seq ?_
  refine WC_block ?_
  refine WC_seq ?_
  refine WC_region ?_
  refine WL_det rfl (det_move) ?_
  dsimp only [put, List.set, ev, nth, List.nil_append, List.cons_append, md, Nat.reducePow, Nat.reduceAdd, Nat.reduceMul]
  refine WL_rel rfl (Rel_call rfl Try.call53 (fun w hw => isG_ok gb N O c hN hO w (hG.far hw))) ?_
  rintro _ _ ⟨rfl, rfl⟩
  dsimp only [put, List.append_nil, List.set, ev, nth, List.nil_append, List.cons_append, md, Nat.reducePow, Nat.reduceAdd, Nat.reduceMul]
  refine WL_det rfl (det_not rfl) ?_
  dsimp only [put, List.set, ev, nth, List.nil_append, List.cons_append, md, Nat.reducePow, Nat.reduceAdd, Nat.reduceMul]
  refine WL_det rfl (det_assign) ?_
  dsimp only [put, List.set, ev, nth, List.nil_append, List.cons_append, md, Nat.reducePow, Nat.reduceAdd, Nat.reduceMul]
  refine WL_nil ?_
  refine WC_cond_false rfl ?_
  refine WC_seq ?_
  refine WC_region ?_
  refine WL_det rfl (det_move) ?_
  dsimp only [put, List.set, ev, nth, List.nil_append, List.cons_append, md, Nat.reducePow, Nat.reduceAdd, Nat.reduceMul]
  refine WL_det rfl (det_move) ?_
  dsimp only [put, List.set, ev, nth, List.nil_append, List.cons_append, md, Nat.reducePow, Nat.reduceAdd, Nat.reduceMul]
  refine WL_det rfl (det_move) ?_
  dsimp only [put, List.set, ev, nth, List.nil_append, List.cons_append, md, Nat.reducePow, Nat.reduceAdd, Nat.reduceMul]
  refine WL_rel rfl (Rel_call rfl Try.call54 (fun w hw => hasI_true gb N O c hN hO a b hab w (hG.far hw))) ?_
  rintro _ _ ⟨rfl, rfl⟩
  dsimp only [put, List.append_nil, List.set, ev, nth, List.nil_append, List.cons_append, md, Nat.reducePow, Nat.reduceAdd, Nat.reduceMul]
  refine WL_det rfl (det_assign) ?_
  dsimp only [put, List.set, ev, nth, List.nil_append, List.cons_append, md, Nat.reducePow, Nat.reduceAdd, Nat.reduceMul]
  refine WL_nil ?_
  refine WC_cond_true rfl ?_
  refine WC_seq ?_
  refine WC_region ?_
  refine WL_det rfl (det_assign) ?_
  dsimp only [put, List.set, ev, nth, List.nil_append, List.cons_append, md, Nat.reducePow, Nat.reduceAdd, Nat.reduceMul]
  refine WL_nil ?_
  refine WC_ret ?_
  refine inB_ret ?_
  refine fin_tmp Try.results28 rfl ([]) (List.nil_sublist _) ?_
  exact ⟨rfl, rfl⟩

set_option maxRecDepth 100000 in
set_option maxHeartbeats 2000000 in
theorem edgeI_new (gb : Nat) (N : List Int) (O : Nat → List Nat) (c : Nat) (hN : N.length ≤ 990) (hc : c ≤ 1000) (hO : ∀ i, (O i).length ≤ 1000) (hOz : ∀ i, N.length ≤ i → O i = []) (M : Mem) (hM : GM intK 3 103 gb N O c M) (a b : Int) (hab : hasB N O a b = false) {w0 : World} {m0 : Mem} {w : World} (hw0 : Has w0 ((M ++ m0)) w) :
    Calls Try.prog 28 [.pointer (some ⟨gb, 0, none⟩), .int .i64 a, .int .i64 b].toArray w (Post w0 fun v m => ∃ m1, (v = vn .i64 0 ∧ GM intK 3 103 gb (addN (addN N a) b) (up O ((addN N a).idxOf a) (O ((addN N a).idxOf a) ++ [(addN (addN N a) b).idxOf b])) (c + 1) m1) ∧ m = m1 ++ m0) := by
  obtain ⟨mb, nv0, ov, rv, hM⟩ := hM
  have hA1 := addN_len N a
  have hA2 := addN_len (addN N a) b
  have hA3 := addN_ge N a
  have hA4 := addN_ge (addN N a) b
  have hia := addN_idx_lt N a b
  have hfr := freshN_le N a b
  refine calls_of_WCm Try.func28 rfl ?_ hw0
  simp only [Try.ntmps28, List.length_cons, List.length_nil, Nat.reduceAdd, Nat.reduceSub, List.replicate, List.cons_append, List.nil_append]
  refine WC_seq ?_
  refine WC_region ?_
  refine WL_det rfl (det_assign) ?_
  dsimp only [put, List.take, List.drop, List.set, ev, nth, List.nil_append, List.cons_append, md, Nat.reducePow, Nat.reduceAdd, Nat.reduceMul]
  refine WL_nil ?_
  refine WC_seq ?_
  refine WC_block ?_
  refine WC_seq ?_
  refine WC_region ?_
  refine WL_det rfl (det_move) ?_
  dsimp only [put, List.take, List.drop, List.set, ev, nth, List.nil_append, List.cons_append, md, Nat.reducePow, Nat.reduceAdd, Nat.reduceMul]
  refine WL_rel rfl (Rel_call rfl Try.call53 (fun w hw => isG_ok gb N O c (by omega) hO w ⟨_, _, _, _, GMv.facts hM hw⟩)) ?_
  rintro _ _ ⟨rfl, rfl⟩
  dsimp only [put, List.append_nil, List.set, ev, nth, List.nil_append, List.cons_append, md, Nat.reducePow, Nat.reduceAdd, Nat.reduceMul]
  try simp only [List.append_nil]
  refine WL_det rfl (det_not rfl) ?_
  dsimp only [put, List.take, List.drop, List.set, ev, nth, List.nil_append, List.cons_append, md, Nat.reducePow, Nat.reduceAdd, Nat.reduceMul]
  refine WL_det rfl (det_assign) ?_
  dsimp only [put, List.take, List.drop, List.set, ev, nth, List.nil_append, List.cons_append, md, Nat.reducePow, Nat.reduceAdd, Nat.reduceMul]
  refine WL_nil ?_
  refine WC_cond_false rfl ?_
  refine WC_seq ?_
  refine WC_region ?_
  refine WL_det rfl (det_move) ?_
  dsimp only [put, List.take, List.drop, List.set, ev, nth, List.nil_append, List.cons_append, md, Nat.reducePow, Nat.reduceAdd, Nat.reduceMul]
  refine WL_det rfl (det_move) ?_
  dsimp only [put, List.take, List.drop, List.set, ev, nth, List.nil_append, List.cons_append, md, Nat.reducePow, Nat.reduceAdd, Nat.reduceMul]
  refine WL_det rfl (det_move) ?_
  dsimp only [put, List.take, List.drop, List.set, ev, nth, List.nil_append, List.cons_append, md, Nat.reducePow, Nat.reduceAdd, Nat.reduceMul]
  refine WL_rel rfl (Rel_call rfl Try.call54 (fun w hw => hasI_false gb N O c (by omega) hO a b hab w ⟨_, _, _, _, GMv.facts hM hw⟩)) ?_
  rintro _ _ ⟨rfl, rfl⟩
  dsimp only [put, List.append_nil, List.set, ev, nth, List.nil_append, List.cons_append, md, Nat.reducePow, Nat.reduceAdd, Nat.reduceMul]
  try simp only [List.append_nil]
  refine WL_det rfl (det_assign) ?_
  dsimp only [put, List.take, List.drop, List.set, ev, nth, List.nil_append, List.cons_append, md, Nat.reducePow, Nat.reduceAdd, Nat.reduceMul]
  refine WL_nil ?_
  refine WC_cond_false rfl ?_
  refine WC_seq ?_
  refine WC_draw [[], [0], [0, 1], [0, 1, 2], [0, 1, 2, 3], [], [], [], [5, 6, 7], [0, 1, 2, 3, 4, 5, 6, 7, 8], [0, 1, 2, 3, 4, 5, 6, 7, 8, 9], [0, 1, 2, 3, 4, 5, 6, 7, 8, 9, 10], [0, 1, 2, 3, 4, 5, 6, 7, 8, 9, 10, 11], [0, 1, 2, 3, 4, 5, 6, 7, 8, 9, 10, 11, 12], [0, 1, 2, 3, 4, 5, 6, 7, 8, 9, 10, 11, 12, 13], [0, 1, 2, 3, 4, 5, 6, 7, 8, 9, 10, 11, 12, 13, 14], [0, 1, 2, 3, 4, 5, 6, 7, 8, 9, 10, 11, 12, 13, 14, 15], [0, 1, 2, 3, 4, 5, 6, 7, 8, 9, 10, 11, 12, 13, 14, 15, 16], [0, 1, 2, 3, 4, 5, 6, 7, 8, 9, 10, 11, 12, 13, 14, 15, 16, 17]] [] 66 [] (List.nil_sublist _) mixed rfl (by decide) ?_
  refine RW.pure rfl rfl (fun _ => rfl) (fun V hV => det_move) (fun _ _ _ => rfl) ?_
  dsimp only [put, List.set, ev, nth, List.nil_append, List.cons_append, md, Nat.reducePow, Nat.reduceAdd, Nat.reduceMul]
  refine RW.pure rfl rfl (fun _ => rfl) (fun V hV => det_nilCheck rfl) (fun _ _ _ => rfl) ?_
  dsimp only [put, List.set, ev, nth, List.nil_append, List.cons_append, md, Nat.reducePow, Nat.reduceAdd, Nat.reduceMul]
  refine RW.pure rfl rfl (fun _ => rfl) (fun V hV => det_fieldAddr 1 Try.underlying103 rfl Try.sizeOf43 rfl) (fun _ _ _ => rfl) ?_
  dsimp only [put, List.set, ev, nth, List.nil_append, List.cons_append, md, Nat.reducePow, Nat.reduceAdd, Nat.reduceMul]
  refine RW.det [] rfl rfl rfl rfl (fun _ => rfl) (fun V hV => Det.rel (det_loadAt Try.isAgg43 rfl fun w hw => GFv.c1 (GMv.facts hM (hflt hw)))) (fun _ _ _ => rfl) ?_
  dsimp only [put, List.set, ev, nth, List.nil_append, List.cons_append, md, Nat.reducePow, Nat.reduceAdd, Nat.reduceMul]
  refine RW.det [] rfl rfl rfl rfl (fun _ => rfl) (fun V hV => Det.rel (det_lenR Try.underlying43 rfl (fun w hw => GFv.n (GMv.facts hM (hflt hw))) (iv_len N))) (fun _ _ _ => rfl) ?_
  dsimp only [put, List.set, ev, nth, List.nil_append, List.cons_append, md, Nat.reducePow, Nat.reduceAdd, Nat.reduceMul]
  refine RW.pure rfl rfl (fun _ => rfl) (fun V hV => det_move) (fun _ _ _ => rfl) ?_
  dsimp only [put, List.set, ev, nth, List.nil_append, List.cons_append, md, Nat.reducePow, Nat.reduceAdd, Nat.reduceMul]
  refine RW.pure rfl rfl (fun _ => rfl) (fun V hV => det_move) (fun _ _ _ => rfl) ?_
  dsimp only [put, List.set, ev, nth, List.nil_append, List.cons_append, md, Nat.reducePow, Nat.reduceAdd, Nat.reduceMul]
  refine RW.pure rfl rfl (fun _ => rfl) (fun V hV => det_move) (fun _ _ _ => rfl) ?_
  dsimp only [put, List.set, ev, nth, List.nil_append, List.cons_append, md, Nat.reducePow, Nat.reduceAdd, Nat.reduceMul]
  refine RW.det [] rfl rfl rfl rfl (fun _ => rfl) (fun V hV => Rel_call rfl Try.call55 (fun w hw => freshI_spec gb N O c (by omega) hO a b w ⟨_, _, _, _, GMv.facts hM (hflt hw)⟩)) (fun _ _ _ => rfl) ?_
  dsimp only [put, List.set, ev, nth, List.nil_append, List.cons_append, md, Nat.reducePow, Nat.reduceAdd, Nat.reduceMul]
  refine RW.pure rfl rfl (fun _ => rfl) (fun V hV => det_addi rfl rfl (by omega)) (fun _ _ _ => rfl) ?_
  dsimp only [put, List.set, ev, nth, List.nil_append, List.cons_append, md, Nat.reducePow, Nat.reduceAdd, Nat.reduceMul]
  refine RW.pure rfl rfl (fun _ => rfl) (fun V hV => Det.bv false (det_gtr (q := 65536) rfl rfl) (decide_eq_false (by omega))) (fun _ _ _ => rfl) ?_
  dsimp only [put, List.set, ev, nth, List.nil_append, List.cons_append, md, Nat.reducePow, Nat.reduceAdd, Nat.reduceMul]
  refine RW.pure rfl rfl (fun _ => rfl) (fun V hV => det_move) (fun _ _ _ => rfl) ?_
  dsimp only [put, List.set, ev, nth, List.nil_append, List.cons_append, md, Nat.reducePow, Nat.reduceAdd, Nat.reduceMul]
  refine RW.pure rfl rfl (fun _ => rfl) (fun V hV => det_move) (fun _ _ _ => rfl) ?_
  dsimp only [put, List.set, ev, nth, List.nil_append, List.cons_append, md, Nat.reducePow, Nat.reduceAdd, Nat.reduceMul]
  refine RW.pure rfl rfl (fun _ => rfl) (fun V hV => det_nilCheck rfl) (fun _ _ _ => rfl) ?_
  dsimp only [put, List.set, ev, nth, List.nil_append, List.cons_append, md, Nat.reducePow, Nat.reduceAdd, Nat.reduceMul]
  refine RW.pure rfl rfl (fun _ => rfl) (fun V hV => det_fieldAddr 3 Try.underlying103 rfl Try.sizeOf3 rfl) (fun _ _ _ => rfl) ?_
  dsimp only [put, List.set, ev, nth, List.nil_append, List.cons_append, md, Nat.reducePow, Nat.reduceAdd, Nat.reduceMul]
  refine RW.det [] rfl rfl rfl rfl (fun _ => rfl) (fun V hV => Det.rel (det_loadAt Try.isAgg3 rfl fun w hw => GFv.c3 (GMv.facts hM (hflt hw)))) (fun _ _ _ => rfl) ?_
  dsimp only [put, List.set, ev, nth, List.nil_append, List.cons_append, md, Nat.reducePow, Nat.reduceAdd, Nat.reduceMul]
  refine RW.pure rfl rfl (fun _ => rfl) (fun V hV => Det.bv false (det_geq (q := 65536) rfl rfl) (decide_eq_false (by omega))) (fun _ _ _ => rfl) ?_
  dsimp only [put, List.set, ev, nth, List.nil_append, List.cons_append, md, Nat.reducePow, Nat.reduceAdd, Nat.reduceMul]
  refine RW.pure rfl rfl (fun _ => rfl) (fun V hV => det_pick_false rfl) (fun _ _ _ => rfl) ?_
  dsimp only [put, List.set, ev, nth, List.nil_append, List.cons_append, md, Nat.reducePow, Nat.reduceAdd, Nat.reduceMul]
  refine RW.pure rfl rfl (fun _ => rfl) (fun V hV => det_assign) (fun _ _ _ => rfl) ?_
  dsimp only [put, List.set, ev, nth, List.nil_append, List.cons_append, md, Nat.reducePow, Nat.reduceAdd, Nat.reduceMul]
  refine RW.done (fun V => _ ++ flat [] V) rfl rfl (fun _ => rfl) (fun V hV => ?_)
  try simp only [flat_nil, List.append_nil]
  try dsimp only [put, blk, flat_nil, List.append_nil, List.append, List.eraseIdx, List.set, ev, nth, List.nil_append, List.cons_append, md, Nat.reducePow, Nat.reduceAdd, Nat.reduceMul]
  refine WC_cond_false rfl ?_
  refine WC_skip ?_
  refine WC_seq ?_
  refine WC_region ?_
  refine WL_det rfl (det_move) ?_
  dsimp only [put, List.take, List.drop, List.set, ev, nth, List.nil_append, List.cons_append, md, Nat.reducePow, Nat.reduceAdd, Nat.reduceMul]
  refine WL_det rfl (det_move) ?_
  dsimp only [put, List.take, List.drop, List.set, ev, nth, List.nil_append, List.cons_append, md, Nat.reducePow, Nat.reduceAdd, Nat.reduceMul]
  refine WL_chg rfl (Chg_callT [] _ _ rfl Try.call56 rfl (fun w mm hw => nodeGI ⟨_, _, _, _, hM⟩ (by omega) hO (hOz _ (Nat.le_refl _)) a w mm hw)) ?_
  rintro _ _ ⟨M1, ⟨rfl, hM1⟩, rfl⟩
  dsimp only [put, setM, List.zip, List.zipWith, List.take, List.drop, List.append_nil, List.set, ev, nth, List.nil_append, List.cons_append, md, Nat.reducePow, Nat.reduceAdd, Nat.reduceMul]
  refine WL_det rfl (det_assign) ?_
  dsimp only [put, List.take, List.drop, List.set, ev, nth, List.nil_append, List.cons_append, md, Nat.reducePow, Nat.reduceAdd, Nat.reduceMul]
  refine WL_nil ?_
  refine WC_seq ?_
  refine WC_region ?_
  refine WL_det rfl (det_move) ?_
  dsimp only [put, List.take, List.drop, List.set, ev, nth, List.nil_append, List.cons_append, md, Nat.reducePow, Nat.reduceAdd, Nat.reduceMul]
  refine WL_det rfl (det_move) ?_
  dsimp only [put, List.take, List.drop, List.set, ev, nth, List.nil_append, List.cons_append, md, Nat.reducePow, Nat.reduceAdd, Nat.reduceMul]
  refine WL_chg rfl (Chg_callT [] _ _ rfl Try.call56 rfl (fun w mm hw => nodeGI hM1 (by omega) hO (hOz _ hA3) b w mm hw)) ?_
  rintro _ _ ⟨M2, ⟨rfl, hM2⟩, rfl⟩
  dsimp only [put, setM, List.zip, List.zipWith, List.take, List.drop, List.append_nil, List.set, ev, nth, List.nil_append, List.cons_append, md, Nat.reducePow, Nat.reduceAdd, Nat.reduceMul]
  refine WL_det rfl (det_assign) ?_
  dsimp only [put, List.take, List.drop, List.set, ev, nth, List.nil_append, List.cons_append, md, Nat.reducePow, Nat.reduceAdd, Nat.reduceMul]
  refine WL_nil ?_
  clear hM hM1
  generalize (addN N a).idxOf a = ia at *
  generalize addN (addN N a) b = N2 at *
  generalize N2.idxOf b = ib at *
  obtain ⟨mb2, nv2, ov2, rv2, hM2⟩ := hM2
  obtain ⟨en, eo, rea, rest, hn2, ho2, hl2, hp, hback⟩ := hM2.open_ hia
  obtain ⟨bo, oo, co, cur, rfl, rfl, hco, hcm, hcs, hcur⟩ := ho2.pos (by rw [rvl_len]; omega)
  rw [rvl_len] at hco hcur hp
  refine WC.perm (hp.append_right m0) ?_
  dsimp only [List.cons_append]
  refine WC_seq ?_
  refine WC_draw [[], [0], [0, 1], [0, 1, 2], [], [], [5], [5, 6], [5, 6, 7], [], [5, 6, 7, 8, 9], [5, 6, 7, 8, 9, 10], [], [12], [5, 6, 7, 8, 9, 10, 11, 12, 13], [0, 1, 2, 3, 4, 5, 6, 7, 8, 9, 10, 11, 12, 13, 14], [0, 1, 2, 3, 4, 5, 6, 7, 8, 9, 10, 11, 12, 13, 14, 15]] [14, 16] 66 [_, _, _] (.cons_cons _ (.cons_cons _ (.cons_cons _ (List.nil_sublist _)))) mixed rfl (by decide) ?_
  refine RW.pure rfl rfl (fun _ => rfl) (fun V hV => det_move) (fun _ _ _ => rfl) ?_
  dsimp only [put, List.set, ev, nth, List.nil_append, List.cons_append, md, Nat.reducePow, Nat.reduceAdd, Nat.reduceMul]
  refine RW.pure rfl rfl (fun _ => rfl) (fun V hV => det_nilCheck rfl) (fun _ _ _ => rfl) ?_
  dsimp only [put, List.set, ev, nth, List.nil_append, List.cons_append, md, Nat.reducePow, Nat.reduceAdd, Nat.reduceMul]
  refine RW.pure rfl rfl (fun _ => rfl) (fun V hV => det_fieldAddr 2 Try.underlying103 rfl Try.sizeOf101 rfl) (fun _ _ _ => rfl) ?_
  dsimp only [put, List.set, ev, nth, List.nil_append, List.cons_append, md, Nat.reducePow, Nat.reduceAdd, Nat.reduceMul]
  refine RW.pure rfl rfl (fun _ => rfl) (fun V hV => det_load 0 Try.isAgg101 rfl rfl rfl) (fun _ _ _ => rfl) ?_
  dsimp only [put, List.set, ev, nth, List.nil_append, List.cons_append, md, Nat.reducePow, Nat.reduceAdd, Nat.reduceMul]
  refine RW.pure rfl rfl (fun _ => rfl) (fun V hV => det_move) (fun _ _ _ => rfl) ?_
  dsimp only [put, List.set, ev, nth, List.nil_append, List.cons_append, md, Nat.reducePow, Nat.reduceAdd, Nat.reduceMul]
  refine RW.pure rfl rfl (fun _ => rfl) (fun V hV => det_move) (fun _ _ _ => rfl) ?_
  dsimp only [put, List.set, ev, nth, List.nil_append, List.cons_append, md, Nat.reducePow, Nat.reduceAdd, Nat.reduceMul]
  refine RW.pure rfl rfl (fun _ => rfl) (fun V hV => det_nilCheck rfl) (fun _ _ _ => rfl) ?_
  dsimp only [put, List.set, ev, nth, List.nil_append, List.cons_append, md, Nat.reducePow, Nat.reduceAdd, Nat.reduceMul]
  refine RW.pure rfl rfl (fun _ => rfl) (fun V hV => det_fieldAddr 2 Try.underlying103 rfl Try.sizeOf101 rfl) (fun _ _ _ => rfl) ?_
  dsimp only [put, List.set, ev, nth, List.nil_append, List.cons_append, md, Nat.reducePow, Nat.reduceAdd, Nat.reduceMul]
  refine RW.det [] rfl rfl rfl rfl (fun _ => rfl) (fun V hV => Det.rel (det_load 0 Try.isAgg101 rfl rfl rfl)) (fun _ _ _ => rfl) ?_
  dsimp only [put, List.set, ev, nth, List.nil_append, List.cons_append, md, Nat.reducePow, Nat.reduceAdd, Nat.reduceMul]
  refine RW.pure rfl rfl (fun _ => rfl) (fun V hV => det_move) (fun _ _ _ => rfl) ?_
  dsimp only [put, List.set, ev, nth, List.nil_append, List.cons_append, md, Nat.reducePow, Nat.reduceAdd, Nat.reduceMul]
  refine RW.pure rfl rfl (fun _ => rfl) (fun V hV => det_idxS Try.underlying101 Try.sizeOf43 rfl rfl (rfl) (hia) (rfl)) (fun _ _ _ => rfl) ?_
  dsimp only [put, List.set, ev, nth, List.nil_append, List.cons_append, md, Nat.reducePow, Nat.reduceAdd, Nat.reduceMul]
  refine RW.det [] rfl rfl rfl rfl (fun _ => rfl) (fun V hV => Det.rel (det_load 3 Try.isAgg43 rfl rfl ((hcur ia hia).trans (rvl_at rv2 N2.length hia)))) (fun _ _ _ => rfl) ?_
  dsimp only [put, List.set, ev, nth, List.nil_append, List.cons_append, md, Nat.reducePow, Nat.reduceAdd, Nat.reduceMul]
  refine RW.pure rfl rfl (fun _ => rfl) (fun V hV => det_move) (fun _ _ _ => rfl) ?_
  dsimp only [put, List.set, ev, nth, List.nil_append, List.cons_append, md, Nat.reducePow, Nat.reduceAdd, Nat.reduceMul]
  refine RW.rel' [] rfl rfl rfl rfl (fun _ => rfl) rfl (fun V hV => rel_lit1 Try.underlying43 Try.zeroValue3 Try.sizeOf3 rfl rfl) (fun _ _ _ _ _ h => h) ?_
  dsimp only [put, List.set, ev, nth, List.nil_append, List.cons_append, md, Nat.reducePow, Nat.reduceAdd, Nat.reduceMul]
  refine RW.tail' (R0 := fun _ v m' => ∃ e', RowO 3 (nv (O ia) ++ [vn .i64 ib]) v e' ∧ m' = (some gb, .cells #[.map (some mb2), nv2, .slice (some ⟨bo, oo, none⟩) N2.length co, vn .i64 c] 103 (0, 0)) :: (some mb2, mapO intK N2) :: en :: (some bo, .cells cur 43 (0, 0)) :: e' :: (rest ++ m0)) (B := fun V => _ ++ flat [13] V) rfl rfl rfl rfl (fun _ => rfl) (fun V hV => by
    have e13 : (V 13).2 = _ := IsSl.mem (hV 13 (by decide) _ rfl)
    simp only [flat_cons, flat_nil, List.append_nil, e13]
    exact chg_appendOE ((some gb, .cells #[.map (some mb2), nv2, .slice (some ⟨bo, oo, none⟩) N2.length co, vn .i64 c] 103 (0, 0)) :: (some mb2, mapO intK N2) :: en :: (some bo, .cells cur 43 (0, 0)) :: rea :: (rest ++ m0)) 4 rfl rfl hl2 rfl (IsSl.ptr (hV 13 (by decide) _ rfl)) rfl Try.underlying43 ei3 rfl (by rw [nv_len]; have := hO ia; omega) (by decide)) (fun _ _ _ _ _ h => h) (fun V hV v m' h => by obtain ⟨_, _, rfl⟩ := h; exact .cons_cons _ (.cons_cons _ (.cons_cons _ (List.nil_sublist _)))) ?_
  dsimp only [put, List.set, ev, nth, List.nil_append, List.cons_append, md, Nat.reducePow, Nat.reduceAdd, Nat.reduceMul]
  refine RW.pure rfl rfl (fun _ => rfl) (fun V hV => det_idxS Try.underlying101 Try.sizeOf43 rfl rfl (rfl) (hia) (rfl)) (fun _ _ _ => rfl) ?_
  dsimp only [put, List.set, ev, nth, List.nil_append, List.cons_append, md, Nat.reducePow, Nat.reduceAdd, Nat.reduceMul]
  refine RW.tail' (R0 := fun V _ m' => ∃ e14, RowO 3 (nv (O ia) ++ [vn .i64 ib]) (V 14).1 e14 ∧ m' = (some gb, .cells #[.map (some mb2), nv2, .slice (some ⟨bo, oo, none⟩) N2.length co, vn .i64 c] 103 (0, 0)) :: (some mb2, mapO intK N2) :: en :: (some bo, .cells (cur.setIfInBounds (oo + ia) (V 14).1) 43 (0, 0)) :: e14 :: (rest ++ m0)) (B := fun V => (V 14).2) rfl rfl rfl rfl (fun _ => rfl) (fun V hV => by
    obtain ⟨e14, hr14, hm14⟩ := hV 14 (by decide) _ rfl
    rw [hm14]
    intro w hw
    exact Runs_mono (chg_store 3 Try.sizeOf43 rfl rfl (by omega) rfl hr14.one w hw) fun v w' ⟨m', h1, h2⟩ => ⟨m', ⟨e14, hr14, h1⟩, h2⟩) (fun V V' hV v m' h => by rw [← hV 14 (by decide)]; exact h) (fun V hV v m' h => by obtain ⟨_, _, rfl⟩ := h; exact .cons_cons _ (.cons_cons _ (.cons_cons _ (List.nil_sublist _)))) ?_
  dsimp only [put, List.set, ev, nth, List.nil_append, List.cons_append, md, Nat.reducePow, Nat.reduceAdd, Nat.reduceMul]
  refine RW.done (fun V => (V 16).2) rfl rfl (fun _ => rfl) (fun V hV => ?_)
  obtain ⟨bl13, hp13, hq13⟩ : IsSl _ _ _ (V 13).1 (V 13).2 := hV 13 _ rfl
  obtain ⟨e14, hr14, ht16⟩ := hV 16 _ rfl
  obtain ⟨v14, hv14⟩ : ∃ v, v = (V 14).1 := ⟨_, rfl⟩
  rw [← hv14] at hr14 ht16
  simp only [hp13, hq13, ← hv14, ht16, List.append_nil, flat_cons, flat_nil]
  try simp only [flat_nil, List.append_nil]
  try dsimp only [put, blk, flat_nil, List.append_nil, List.append, List.eraseIdx, List.set, ev, nth, List.nil_append, List.cons_append, md, Nat.reducePow, Nat.reduceAdd, Nat.reduceMul]
  clear hV ht16
  refine WC_seq ?_
  refine WC_region ?_
  refine WL_det rfl (det_move) ?_
  dsimp only [put, List.take, List.drop, List.set, ev, nth, List.nil_append, List.cons_append, md, Nat.reducePow, Nat.reduceAdd, Nat.reduceMul]
  refine WL_det rfl (det_nilCheck rfl) ?_
  dsimp only [put, List.take, List.drop, List.set, ev, nth, List.nil_append, List.cons_append, md, Nat.reducePow, Nat.reduceAdd, Nat.reduceMul]
  refine WL_det rfl (det_fieldAddr 3 Try.underlying103 rfl Try.sizeOf3 rfl) ?_
  dsimp only [put, List.take, List.drop, List.set, ev, nth, List.nil_append, List.cons_append, md, Nat.reducePow, Nat.reduceAdd, Nat.reduceMul]
  refine WL_det rfl (det_load 0 Try.isAgg3 rfl rfl rfl) ?_
  dsimp only [put, List.take, List.drop, List.set, ev, nth, List.nil_append, List.cons_append, md, Nat.reducePow, Nat.reduceAdd, Nat.reduceMul]
  refine WL_det rfl (det_addi (q := 1) rfl rfl (by omega)) ?_
  dsimp only [put, List.take, List.drop, List.set, ev, nth, List.nil_append, List.cons_append, md, Nat.reducePow, Nat.reduceAdd, Nat.reduceMul]
  refine WL_det rfl (det_nilCheck rfl) ?_
  dsimp only [put, List.take, List.drop, List.set, ev, nth, List.nil_append, List.cons_append, md, Nat.reducePow, Nat.reduceAdd, Nat.reduceMul]
  refine WL_det rfl (det_fieldAddr 3 Try.underlying103 rfl Try.sizeOf3 rfl) ?_
  dsimp only [put, List.take, List.drop, List.set, ev, nth, List.nil_append, List.cons_append, md, Nat.reducePow, Nat.reduceAdd, Nat.reduceMul]
  refine WL_chg rfl (chg_storeC 0 (c' := #[.map (some mb2), nv2, .slice (some ⟨bo, oo, none⟩) N2.length co, vn .i64 (c + 1)]) Try.sizeOf3 rfl rfl (by simp) rfl (rfl) rfl) ?_
  rintro _ _ rfl
  dsimp only [put, List.take, List.drop, List.set, ev, nth, List.nil_append, List.cons_append, md, Nat.reducePow, Nat.reduceAdd, Nat.reduceMul]
  refine WL_nil ?_
  obtain ⟨M3, hM3, hp3⟩ := hback _ _ v14 e14 (O ia ++ [ib]) (c + 1) (RowO.put (rvl_len rv2 N2.length) hco hcm hcs hcur hia v14) (by rw [nv_snoc] at hr14; exact hr14)
  refine WC.perm (m' := M3 ++ m0) (hp3.append_right m0).symm ?_
  refine WC_seq ?_
  refine WC_region ?_
  refine WL_det rfl (det_assign) ?_
  dsimp only [put, List.take, List.drop, List.set, ev, nth, List.nil_append, List.cons_append, md, Nat.reducePow, Nat.reduceAdd, Nat.reduceMul]
  refine WL_nil ?_
  refine WC_ret ?_
  refine fin_tmp Try.results28 rfl (_) (List.Sublist.refl _) ?_
  exact ⟨_, ⟨rfl, hM3⟩, rfl⟩

end Go.Proofs.Ytocmlaloafmfkaa

set_option linter.unusedVariables false
namespace Go.Proofs.Ytocmlaloafmfkaa
open Go.MW
theorem hasS_true (gb : Nat) (N : List Str) (O : Nat → List Nat) (c : Nat) (hN : N.length ≤ 1000) (hO : ∀ i, (O i).length ≤ 1000) (a b : Str) (h : hasB N O a b = true) (w : World) (hG : GF strK 107 gb N O c w) : Calls Try.prog 58 #[.pointer (some ⟨gb, 0, none⟩), .string a, .string b] w (PostV w (.bool true)) := h ▸ hasS_spec gb N O c hN hO a b w hG
theorem hasS_false (gb : Nat) (N : List Str) (O : Nat → List Nat) (c : Nat) (hN : N.length ≤ 1000) (hO : ∀ i, (O i).length ≤ 1000) (a b : Str) (h : hasB N O a b = false) (w : World) (hG : GF strK 107 gb N O c w) : Calls Try.prog 58 #[.pointer (some ⟨gb, 0, none⟩), .string a, .string b] w (PostV w (.bool false)) := h ▸ hasS_spec gb N O c hN hO a b w hG

set_option maxRecDepth 100000 in
set_option maxHeartbeats 400000 in
theorem edgeS_old (gb : Nat) (N : List Str) (O : Nat → List Nat) (c : Nat) (hN : N.length ≤ 1000) (hO : ∀ i, (O i).length ≤ 1000) (a b : Str) (hab : hasB N O a b = true) (w : World) (hG : GF strK 107 gb N O c w) :
    Calls Try.prog 37 [.pointer (some ⟨gb, 0, none⟩), .string a, .string b].toArray w (PostV w (vn .i64 0)) := by
  refine calls_of_WC Try.func37 rfl ?_
  simp only [Try.ntmps37, List.length_cons, List.length_nil, Nat.reduceAdd, Nat.reduceSub, List.replicate, List.cons_append, List.nil_append]
  refine WC_seq ?_
  refine WC_region ?_
  refine WL_det rfl (det_assign) ?_
  dsimp only [put, List.set, ev, nth, List.nil_append, List.cons_append, md, Nat.reducePow, Nat.reduceAdd, Nat.reduceMul]
  refine WL_nil ?_
  refine WC_seq ?_
  refine WC_block ?_
  refine WC_seq ?_
  refine WC_region ?_
  refine WL_det rfl (det_move) ?_
  dsimp only [put, List.set, ev, nth, List.nil_append, List.cons_append, md, Nat.reducePow, Nat.reduceAdd, Nat.reduceMul]
  refine WL_rel rfl (Rel_call rfl Try.call57 (fun w hw => isT_ok gb N O c hN hO w (hG.far hw))) ?_
  rintro _ _ ⟨rfl, rfl⟩
  dsimp only [put, List.append_nil, List.set, ev, nth, List.nil_append, List.cons_append, md, Nat.reducePow, Nat.reduceAdd, Nat.reduceMul]
  refine WL_det rfl (det_not rfl) ?_
  dsimp only [put, List.set, ev, nth, List.nil_append, List.cons_append, md, Nat.reducePow, Nat.reduceAdd, Nat.reduceMul]
  refine WL_det rfl (det_assign) ?_
  dsimp only [put, List.set, ev, nth, List.nil_append, List.cons_append, md, Nat.reducePow, Nat.reduceAdd, Nat.reduceMul]
  refine WL_nil ?_
  refine WC_cond_false rfl ?_
  refine WC_seq ?_
  refine WC_region ?_
  refine WL_det rfl (det_move) ?_
  dsimp only [put, List.set, ev, nth, List.nil_append, List.cons_append, md, Nat.reducePow, Nat.reduceAdd, Nat.reduceMul]
  refine WL_det rfl (det_move) ?_
  dsimp only [put, List.set, ev, nth, List.nil_append, List.cons_append, md, Nat.reducePow, Nat.reduceAdd, Nat.reduceMul]
  refine WL_det rfl (det_move) ?_
  dsimp only [put, List.set, ev, nth, List.nil_append, List.cons_append, md, Nat.reducePow, Nat.reduceAdd, Nat.reduceMul]
  refine WL_rel rfl (Rel_call rfl Try.call58 (fun w hw => hasS_true gb N O c hN hO a b hab w (hG.far hw))) ?_
  rintro _ _ ⟨rfl, rfl⟩
  dsimp only [put, List.append_nil, List.set, ev, nth, List.nil_append, List.cons_append, md, Nat.reducePow, Nat.reduceAdd, Nat.reduceMul]
  refine WL_det rfl (det_assign) ?_
  dsimp only [put, List.set, ev, nth, List.nil_append, List.cons_append, md, Nat.reducePow, Nat.reduceAdd, Nat.reduceMul]
  refine WL_nil ?_
  refine WC_cond_true rfl ?_
  refine WC_seq ?_
  refine WC_region ?_
  refine WL_det rfl (det_assign) ?_
  dsimp only [put, List.set, ev, nth, List.nil_append, List.cons_append, md, Nat.reducePow, Nat.reduceAdd, Nat.reduceMul]
  refine WL_nil ?_
  refine WC_ret ?_
  refine inB_ret ?_
  refine fin_tmp Try.results37 rfl ([]) (List.nil_sublist _) ?_
  exact ⟨rfl, rfl⟩

set_option maxRecDepth 100000 in
set_option maxHeartbeats 2000000 in
theorem edgeS_new (gb : Nat) (N : List Str) (O : Nat → List Nat) (c : Nat) (hN : N.length ≤ 990) (hc : c ≤ 1000) (hO : ∀ i, (O i).length ≤ 1000) (hOz : ∀ i, N.length ≤ i → O i = []) (M : Mem) (hM : GM strK 9 107 gb N O c M) (a b : Str) (hab : hasB N O a b = false) {w0 : World} {m0 : Mem} {w : World} (hw0 : Has w0 ((M ++ m0)) w) :
    Calls Try.prog 37 [.pointer (some ⟨gb, 0, none⟩), .string a, .string b].toArray w (Post w0 fun v m => ∃ m1, (v = vn .i64 0 ∧ GM strK 9 107 gb (addN (addN N a) b) (up O ((addN N a).idxOf a) (O ((addN N a).idxOf a) ++ [(addN (addN N a) b).idxOf b])) (c + 1) m1) ∧ m = m1 ++ m0) := by
  obtain ⟨mb, nv0, ov, rv, hM⟩ := hM
  have hA1 := addN_len N a
  have hA2 := addN_len (addN N a) b
  have hA3 := addN_ge N a
  have hA4 := addN_ge (addN N a) b
  have hia := addN_idx_lt N a b
  have hfr := freshN_le N a b
  refine calls_of_WCm Try.func37 rfl ?_ hw0
  simp only [Try.ntmps37, List.length_cons, List.length_nil, Nat.reduceAdd, Nat.reduceSub, List.replicate, List.cons_append, List.nil_append]
  refine WC_seq ?_
  refine WC_region ?_
  refine WL_det rfl (det_assign) ?_
  dsimp only [put, List.take, List.drop, List.set, ev, nth, List.nil_append, List.cons_append, md, Nat.reducePow, Nat.reduceAdd, Nat.reduceMul]
  refine WL_nil ?_
  refine WC_seq ?_
  refine WC_block ?_
  refine WC_seq ?_
  refine WC_region ?_
  refine WL_det rfl (det_move) ?_
  dsimp only [put, List.take, List.drop, List.set, ev, nth, List.nil_append, List.cons_append, md, Nat.reducePow, Nat.reduceAdd, Nat.reduceMul]
  refine WL_rel rfl (Rel_call rfl Try.call57 (fun w hw => isT_ok gb N O c (by omega) hO w ⟨_, _, _, _, GMv.facts hM hw⟩)) ?_
  rintro _ _ ⟨rfl, rfl⟩
  dsimp only [put, List.append_nil, List.set, ev, nth, List.nil_append, List.cons_append, md, Nat.reducePow, Nat.reduceAdd, Nat.reduceMul]
  try simp only [List.append_nil]
  refine WL_det rfl (det_not rfl) ?_
  dsimp only [put, List.take, List.drop, List.set, ev, nth, List.nil_append, List.cons_append, md, Nat.reducePow, Nat.reduceAdd, Nat.reduceMul]
  refine WL_det rfl (det_assign) ?_
  dsimp only [put, List.take, List.drop, List.set, ev, nth, List.nil_append, List.cons_append, md, Nat.reducePow, Nat.reduceAdd, Nat.reduceMul]
  refine WL_nil ?_
  refine WC_cond_false rfl ?_
  refine WC_seq ?_
  refine WC_region ?_
  refine WL_det rfl (det_move) ?_
  dsimp only [put, List.take, List.drop, List.set, ev, nth, List.nil_append, List.cons_append, md, Nat.reducePow, Nat.reduceAdd, Nat.reduceMul]
  refine WL_det rfl (det_move) ?_
  dsimp only [put, List.take, List.drop, List.set, ev, nth, List.nil_append, List.cons_append, md, Nat.reducePow, Nat.reduceAdd, Nat.reduceMul]
  refine WL_det rfl (det_move) ?_
  dsimp only [put, List.take, List.drop, List.set, ev, nth, List.nil_append, List.cons_append, md, Nat.reducePow, Nat.reduceAdd, Nat.reduceMul]
  refine WL_rel rfl (Rel_call rfl Try.call58 (fun w hw => hasS_false gb N O c (by omega) hO a b hab w ⟨_, _, _, _, GMv.facts hM hw⟩)) ?_
  rintro _ _ ⟨rfl, rfl⟩
  dsimp only [put, List.append_nil, List.set, ev, nth, List.nil_append, List.cons_append, md, Nat.reducePow, Nat.reduceAdd, Nat.reduceMul]
  try simp only [List.append_nil]
  refine WL_det rfl (det_assign) ?_
  dsimp only [put, List.take, List.drop, List.set, ev, nth, List.nil_append, List.cons_append, md, Nat.reducePow, Nat.reduceAdd, Nat.reduceMul]
  refine WL_nil ?_
  refine WC_cond_false rfl ?_
  refine WC_seq ?_
  refine WC_draw [[], [0], [0, 1], [0, 1, 2], [0, 1, 2, 3], [], [], [], [5, 6, 7], [0, 1, 2, 3, 4, 5, 6, 7, 8], [0, 1, 2, 3, 4, 5, 6, 7, 8, 9], [0, 1, 2, 3, 4, 5, 6, 7, 8, 9, 10], [0, 1, 2, 3, 4, 5, 6, 7, 8, 9, 10, 11], [0, 1, 2, 3, 4, 5, 6, 7, 8, 9, 10, 11, 12], [0, 1, 2, 3, 4, 5, 6, 7, 8, 9, 10, 11, 12, 13], [0, 1, 2, 3, 4, 5, 6, 7, 8, 9, 10, 11, 12, 13, 14], [0, 1, 2, 3, 4, 5, 6, 7, 8, 9, 10, 11, 12, 13, 14, 15], [0, 1, 2, 3, 4, 5, 6, 7, 8, 9, 10, 11, 12, 13, 14, 15, 16], [0, 1, 2, 3, 4, 5, 6, 7, 8, 9, 10, 11, 12, 13, 14, 15, 16, 17]] [] 66 [] (List.nil_sublist _) mixed rfl (by decide) ?_
  refine RW.pure rfl rfl (fun _ => rfl) (fun V hV => det_move) (fun _ _ _ => rfl) ?_
  dsimp only [put, List.set, ev, nth, List.nil_append, List.cons_append, md, Nat.reducePow, Nat.reduceAdd, Nat.reduceMul]
  refine RW.pure rfl rfl (fun _ => rfl) (fun V hV => det_nilCheck rfl) (fun _ _ _ => rfl) ?_
  dsimp only [put, List.set, ev, nth, List.nil_append, List.cons_append, md, Nat.reducePow, Nat.reduceAdd, Nat.reduceMul]
  refine RW.pure rfl rfl (fun _ => rfl) (fun V hV => det_fieldAddr 1 Try.underlying107 rfl Try.sizeOf22 rfl) (fun _ _ _ => rfl) ?_
  dsimp only [put, List.set, ev, nth, List.nil_append, List.cons_append, md, Nat.reducePow, Nat.reduceAdd, Nat.reduceMul]
  refine RW.det [] rfl rfl rfl rfl (fun _ => rfl) (fun V hV => Det.rel (det_loadAt Try.isAgg22 rfl fun w hw => GFv.c1 (GMv.facts hM (hflt hw)))) (fun _ _ _ => rfl) ?_
  dsimp only [put, List.set, ev, nth, List.nil_append, List.cons_append, md, Nat.reducePow, Nat.reduceAdd, Nat.reduceMul]
  refine RW.det [] rfl rfl rfl rfl (fun _ => rfl) (fun V hV => Det.rel (det_lenR Try.underlying22 rfl (fun w hw => GFv.n (GMv.facts hM (hflt hw))) (sv_len N))) (fun _ _ _ => rfl) ?_
  dsimp only [put, List.set, ev, nth, List.nil_append, List.cons_append, md, Nat.reducePow, Nat.reduceAdd, Nat.reduceMul]
  refine RW.pure rfl rfl (fun _ => rfl) (fun V hV => det_move) (fun _ _ _ => rfl) ?_
  dsimp only [put, List.set, ev, nth, List.nil_append, List.cons_append, md, Nat.reducePow, Nat.reduceAdd, Nat.reduceMul]
  refine RW.pure rfl rfl (fun _ => rfl) (fun V hV => det_move) (fun _ _ _ => rfl) ?_
  dsimp only [put, List.set, ev, nth, List.nil_append, List.cons_append, md, Nat.reducePow, Nat.reduceAdd, Nat.reduceMul]
  refine RW.pure rfl rfl (fun _ => rfl) (fun V hV => det_move) (fun _ _ _ => rfl) ?_
  dsimp only [put, List.set, ev, nth, List.nil_append, List.cons_append, md, Nat.reducePow, Nat.reduceAdd, Nat.reduceMul]
  refine RW.det [] rfl rfl rfl rfl (fun _ => rfl) (fun V hV => Rel_call rfl Try.call59 (fun w hw => freshS_spec gb N O c (by omega) hO a b w ⟨_, _, _, _, GMv.facts hM (hflt hw)⟩)) (fun _ _ _ => rfl) ?_
  dsimp only [put, List.set, ev, nth, List.nil_append, List.cons_append, md, Nat.reducePow, Nat.reduceAdd, Nat.reduceMul]
  refine RW.pure rfl rfl (fun _ => rfl) (fun V hV => det_addi rfl rfl (by omega)) (fun _ _ _ => rfl) ?_
  dsimp only [put, List.set, ev, nth, List.nil_append, List.cons_append, md, Nat.reducePow, Nat.reduceAdd, Nat.reduceMul]
  refine RW.pure rfl rfl (fun _ => rfl) (fun V hV => Det.bv false (det_gtr (q := 65536) rfl rfl) (decide_eq_false (by omega))) (fun _ _ _ => rfl) ?_
  dsimp only [put, List.set, ev, nth, List.nil_append, List.cons_append, md, Nat.reducePow, Nat.reduceAdd, Nat.reduceMul]
  refine RW.pure rfl rfl (fun _ => rfl) (fun V hV => det_move) (fun _ _ _ => rfl) ?_
  dsimp only [put, List.set, ev, nth, List.nil_append, List.cons_append, md, Nat.reducePow, Nat.reduceAdd, Nat.reduceMul]
  refine RW.pure rfl rfl (fun _ => rfl) (fun V hV => det_move) (fun _ _ _ => rfl) ?_
  dsimp only [put, List.set, ev, nth, List.nil_append, List.cons_append, md, Nat.reducePow, Nat.reduceAdd, Nat.reduceMul]
  refine RW.pure rfl rfl (fun _ => rfl) (fun V hV => det_nilCheck rfl) (fun _ _ _ => rfl) ?_
  dsimp only [put, List.set, ev, nth, List.nil_append, List.cons_append, md, Nat.reducePow, Nat.reduceAdd, Nat.reduceMul]
  refine RW.pure rfl rfl (fun _ => rfl) (fun V hV => det_fieldAddr 3 Try.underlying107 rfl Try.sizeOf3 rfl) (fun _ _ _ => rfl) ?_
  dsimp only [put, List.set, ev, nth, List.nil_append, List.cons_append, md, Nat.reducePow, Nat.reduceAdd, Nat.reduceMul]
  refine RW.det [] rfl rfl rfl rfl (fun _ => rfl) (fun V hV => Det.rel (det_loadAt Try.isAgg3 rfl fun w hw => GFv.c3 (GMv.facts hM (hflt hw)))) (fun _ _ _ => rfl) ?_
  dsimp only [put, List.set, ev, nth, List.nil_append, List.cons_append, md, Nat.reducePow, Nat.reduceAdd, Nat.reduceMul]
  refine RW.pure rfl rfl (fun _ => rfl) (fun V hV => Det.bv false (det_geq (q := 65536) rfl rfl) (decide_eq_false (by omega))) (fun _ _ _ => rfl) ?_
  dsimp only [put, List.set, ev, nth, List.nil_append, List.cons_append, md, Nat.reducePow, Nat.reduceAdd, Nat.reduceMul]
  refine RW.pure rfl rfl (fun _ => rfl) (fun V hV => det_pick_false rfl) (fun _ _ _ => rfl) ?_
  dsimp only [put, List.set, ev, nth, List.nil_append, List.cons_append, md, Nat.reducePow, Nat.reduceAdd, Nat.reduceMul]
  refine RW.pure rfl rfl (fun _ => rfl) (fun V hV => det_assign) (fun _ _ _ => rfl) ?_
  dsimp only [put, List.set, ev, nth, List.nil_append, List.cons_append, md, Nat.reducePow, Nat.reduceAdd, Nat.reduceMul]
  refine RW.done (fun V => _ ++ flat [] V) rfl rfl (fun _ => rfl) (fun V hV => ?_)
  try simp only [flat_nil, List.append_nil]
  try dsimp only [put, blk, flat_nil, List.append_nil, List.append, List.eraseIdx, List.set, ev, nth, List.nil_append, List.cons_append, md, Nat.reducePow, Nat.reduceAdd, Nat.reduceMul]
  refine WC_cond_false rfl ?_
  refine WC_skip ?_
  refine WC_seq ?_
  refine WC_region ?_
  refine WL_det rfl (det_move) ?_
  dsimp only [put, List.take, List.drop, List.set, ev, nth, List.nil_append, List.cons_append, md, Nat.reducePow, Nat.reduceAdd, Nat.reduceMul]
  refine WL_det rfl (det_move) ?_
  dsimp only [put, List.take, List.drop, List.set, ev, nth, List.nil_append, List.cons_append, md, Nat.reducePow, Nat.reduceAdd, Nat.reduceMul]
  refine WL_chg rfl (Chg_callT [] _ _ rfl Try.call60 rfl (fun w mm hw => nodeGS ⟨_, _, _, _, hM⟩ (by omega) hO (hOz _ (Nat.le_refl _)) a w mm hw)) ?_
  rintro _ _ ⟨M1, ⟨rfl, hM1⟩, rfl⟩
  dsimp only [put, setM, List.zip, List.zipWith, List.take, List.drop, List.append_nil, List.set, ev, nth, List.nil_append, List.cons_append, md, Nat.reducePow, Nat.reduceAdd, Nat.reduceMul]
  refine WL_det rfl (det_assign) ?_
  dsimp only [put, List.take, List.drop, List.set, ev, nth, List.nil_append, List.cons_append, md, Nat.reducePow, Nat.reduceAdd, Nat.reduceMul]
  refine WL_nil ?_
  refine WC_seq ?_
  refine WC_region ?_
  refine WL_det rfl (det_move) ?_
  dsimp only [put, List.take, List.drop, List.set, ev, nth, List.nil_append, List.cons_append, md, Nat.reducePow, Nat.reduceAdd, Nat.reduceMul]
  refine WL_det rfl (det_move) ?_
  dsimp only [put, List.take, List.drop, List.set, ev, nth, List.nil_append, List.cons_append, md, Nat.reducePow, Nat.reduceAdd, Nat.reduceMul]
  refine WL_chg rfl (Chg_callT [] _ _ rfl Try.call60 rfl (fun w mm hw => nodeGS hM1 (by omega) hO (hOz _ hA3) b w mm hw)) ?_
  rintro _ _ ⟨M2, ⟨rfl, hM2⟩, rfl⟩
  dsimp only [put, setM, List.zip, List.zipWith, List.take, List.drop, List.append_nil, List.set, ev, nth, List.nil_append, List.cons_append, md, Nat.reducePow, Nat.reduceAdd, Nat.reduceMul]
  refine WL_det rfl (det_assign) ?_
  dsimp only [put, List.take, List.drop, List.set, ev, nth, List.nil_append, List.cons_append, md, Nat.reducePow, Nat.reduceAdd, Nat.reduceMul]
  refine WL_nil ?_
  clear hM hM1
  generalize (addN N a).idxOf a = ia at *
  generalize addN (addN N a) b = N2 at *
  generalize N2.idxOf b = ib at *
  obtain ⟨mb2, nv2, ov2, rv2, hM2⟩ := hM2
  obtain ⟨en, eo, rea, rest, hn2, ho2, hl2, hp, hback⟩ := hM2.open_ hia
  obtain ⟨bo, oo, co, cur, rfl, rfl, hco, hcm, hcs, hcur⟩ := ho2.pos (by rw [rvl_len]; omega)
  rw [rvl_len] at hco hcur hp
  refine WC.perm (hp.append_right m0) ?_
  dsimp only [List.cons_append]
  refine WC_seq ?_
  refine WC_draw [[], [0], [0, 1], [0, 1, 2], [], [], [5], [5, 6], [5, 6, 7], [], [5, 6, 7, 8, 9], [5, 6, 7, 8, 9, 10], [], [12], [5, 6, 7, 8, 9, 10, 11, 12, 13], [0, 1, 2, 3, 4, 5, 6, 7, 8, 9, 10, 11, 12, 13, 14], [0, 1, 2, 3, 4, 5, 6, 7, 8, 9, 10, 11, 12, 13, 14, 15]] [14, 16] 66 [_, _, _] (.cons_cons _ (.cons_cons _ (.cons_cons _ (List.nil_sublist _)))) mixed rfl (by decide) ?_
  refine RW.pure rfl rfl (fun _ => rfl) (fun V hV => det_move) (fun _ _ _ => rfl) ?_
  dsimp only [put, List.set, ev, nth, List.nil_append, List.cons_append, md, Nat.reducePow, Nat.reduceAdd, Nat.reduceMul]
  refine RW.pure rfl rfl (fun _ => rfl) (fun V hV => det_nilCheck rfl) (fun _ _ _ => rfl) ?_
  dsimp only [put, List.set, ev, nth, List.nil_append, List.cons_append, md, Nat.reducePow, Nat.reduceAdd, Nat.reduceMul]
  refine RW.pure rfl rfl (fun _ => rfl) (fun V hV => det_fieldAddr 2 Try.underlying107 rfl Try.sizeOf101 rfl) (fun _ _ _ => rfl) ?_
  dsimp only [put, List.set, ev, nth, List.nil_append, List.cons_append, md, Nat.reducePow, Nat.reduceAdd, Nat.reduceMul]
  refine RW.pure rfl rfl (fun _ => rfl) (fun V hV => det_load 0 Try.isAgg101 rfl rfl rfl) (fun _ _ _ => rfl) ?_
  dsimp only [put, List.set, ev, nth, List.nil_append, List.cons_append, md, Nat.reducePow, Nat.reduceAdd, Nat.reduceMul]
  refine RW.pure rfl rfl (fun _ => rfl) (fun V hV => det_move) (fun _ _ _ => rfl) ?_
  dsimp only [put, List.set, ev, nth, List.nil_append, List.cons_append, md, Nat.reducePow, Nat.reduceAdd, Nat.reduceMul]
  refine RW.pure rfl rfl (fun _ => rfl) (fun V hV => det_move) (fun _ _ _ => rfl) ?_
  dsimp only [put, List.set, ev, nth, List.nil_append, List.cons_append, md, Nat.reducePow, Nat.reduceAdd, Nat.reduceMul]
  refine RW.pure rfl rfl (fun _ => rfl) (fun V hV => det_nilCheck rfl) (fun _ _ _ => rfl) ?_
  dsimp only [put, List.set, ev, nth, List.nil_append, List.cons_append, md, Nat.reducePow, Nat.reduceAdd, Nat.reduceMul]
  refine RW.pure rfl rfl (fun _ => rfl) (fun V hV => det_fieldAddr 2 Try.underlying107 rfl Try.sizeOf101 rfl) (fun _ _ _ => rfl) ?_
  dsimp only [put, List.set, ev, nth, List.nil_append, List.cons_append, md, Nat.reducePow, Nat.reduceAdd, Nat.reduceMul]
  refine RW.det [] rfl rfl rfl rfl (fun _ => rfl) (fun V hV => Det.rel (det_load 0 Try.isAgg101 rfl rfl rfl)) (fun _ _ _ => rfl) ?_
  dsimp only [put, List.set, ev, nth, List.nil_append, List.cons_append, md, Nat.reducePow, Nat.reduceAdd, Nat.reduceMul]
  refine RW.pure rfl rfl (fun _ => rfl) (fun V hV => det_move) (fun _ _ _ => rfl) ?_
  dsimp only [put, List.set, ev, nth, List.nil_append, List.cons_append, md, Nat.reducePow, Nat.reduceAdd, Nat.reduceMul]
  refine RW.pure rfl rfl (fun _ => rfl) (fun V hV => det_idxS Try.underlying101 Try.sizeOf43 rfl rfl (rfl) (hia) (rfl)) (fun _ _ _ => rfl) ?_
  dsimp only [put, List.set, ev, nth, List.nil_append, List.cons_append, md, Nat.reducePow, Nat.reduceAdd, Nat.reduceMul]
  refine RW.det [] rfl rfl rfl rfl (fun _ => rfl) (fun V hV => Det.rel (det_load 3 Try.isAgg43 rfl rfl ((hcur ia hia).trans (rvl_at rv2 N2.length hia)))) (fun _ _ _ => rfl) ?_
  dsimp only [put, List.set, ev, nth, List.nil_append, List.cons_append, md, Nat.reducePow, Nat.reduceAdd, Nat.reduceMul]
  refine RW.pure rfl rfl (fun _ => rfl) (fun V hV => det_move) (fun _ _ _ => rfl) ?_
  dsimp only [put, List.set, ev, nth, List.nil_append, List.cons_append, md, Nat.reducePow, Nat.reduceAdd, Nat.reduceMul]
  refine RW.rel' [] rfl rfl rfl rfl (fun _ => rfl) rfl (fun V hV => rel_lit1 Try.underlying43 Try.zeroValue3 Try.sizeOf3 rfl rfl) (fun _ _ _ _ _ h => h) ?_
  dsimp only [put, List.set, ev, nth, List.nil_append, List.cons_append, md, Nat.reducePow, Nat.reduceAdd, Nat.reduceMul]
  refine RW.tail' (R0 := fun _ v m' => ∃ e', RowO 3 (nv (O ia) ++ [vn .i64 ib]) v e' ∧ m' = (some gb, .cells #[.map (some mb2), nv2, .slice (some ⟨bo, oo, none⟩) N2.length co, vn .i64 c] 107 (0, 0)) :: (some mb2, mapO strK N2) :: en :: (some bo, .cells cur 43 (0, 0)) :: e' :: (rest ++ m0)) (B := fun V => _ ++ flat [13] V) rfl rfl rfl rfl (fun _ => rfl) (fun V hV => by
    have e13 : (V 13).2 = _ := IsSl.mem (hV 13 (by decide) _ rfl)
    simp only [flat_cons, flat_nil, List.append_nil, e13]
    exact chg_appendOE ((some gb, .cells #[.map (some mb2), nv2, .slice (some ⟨bo, oo, none⟩) N2.length co, vn .i64 c] 107 (0, 0)) :: (some mb2, mapO strK N2) :: en :: (some bo, .cells cur 43 (0, 0)) :: rea :: (rest ++ m0)) 4 rfl rfl hl2 rfl (IsSl.ptr (hV 13 (by decide) _ rfl)) rfl Try.underlying43 ei3 rfl (by rw [nv_len]; have := hO ia; omega) (by decide)) (fun _ _ _ _ _ h => h) (fun V hV v m' h => by obtain ⟨_, _, rfl⟩ := h; exact .cons_cons _ (.cons_cons _ (.cons_cons _ (List.nil_sublist _)))) ?_
  dsimp only [put, List.set, ev, nth, List.nil_append, List.cons_append, md, Nat.reducePow, Nat.reduceAdd, Nat.reduceMul]
  refine RW.pure rfl rfl (fun _ => rfl) (fun V hV => det_idxS Try.underlying101 Try.sizeOf43 rfl rfl (rfl) (hia) (rfl)) (fun _ _ _ => rfl) ?_
  dsimp only [put, List.set, ev, nth, List.nil_append, List.cons_append, md, Nat.reducePow, Nat.reduceAdd, Nat.reduceMul]
  refine RW.tail' (R0 := fun V _ m' => ∃ e14, RowO 3 (nv (O ia) ++ [vn .i64 ib]) (V 14).1 e14 ∧ m' = (some gb, .cells #[.map (some mb2), nv2, .slice (some ⟨bo, oo, none⟩) N2.length co, vn .i64 c] 107 (0, 0)) :: (some mb2, mapO strK N2) :: en :: (some bo, .cells (cur.setIfInBounds (oo + ia) (V 14).1) 43 (0, 0)) :: e14 :: (rest ++ m0)) (B := fun V => (V 14).2) rfl rfl rfl rfl (fun _ => rfl) (fun V hV => by
    obtain ⟨e14, hr14, hm14⟩ := hV 14 (by decide) _ rfl
    rw [hm14]
    intro w hw
    exact Runs_mono (chg_store 3 Try.sizeOf43 rfl rfl (by omega) rfl hr14.one w hw) fun v w' ⟨m', h1, h2⟩ => ⟨m', ⟨e14, hr14, h1⟩, h2⟩) (fun V V' hV v m' h => by rw [← hV 14 (by decide)]; exact h) (fun V hV v m' h => by obtain ⟨_, _, rfl⟩ := h; exact .cons_cons _ (.cons_cons _ (.cons_cons _ (List.nil_sublist _)))) ?_
  dsimp only [put, List.set, ev, nth, List.nil_append, List.cons_append, md, Nat.reducePow, Nat.reduceAdd, Nat.reduceMul]
  refine RW.done (fun V => (V 16).2) rfl rfl (fun _ => rfl) (fun V hV => ?_)
  obtain ⟨bl13, hp13, hq13⟩ : IsSl _ _ _ (V 13).1 (V 13).2 := hV 13 _ rfl
  obtain ⟨e14, hr14, ht16⟩ := hV 16 _ rfl
  obtain ⟨v14, hv14⟩ : ∃ v, v = (V 14).1 := ⟨_, rfl⟩
  rw [← hv14] at hr14 ht16
  simp only [hp13, hq13, ← hv14, ht16, List.append_nil, flat_cons, flat_nil]
  try simp only [flat_nil, List.append_nil]
  try dsimp only [put, blk, flat_nil, List.append_nil, List.append, List.eraseIdx, List.set, ev, nth, List.nil_append, List.cons_append, md, Nat.reducePow, Nat.reduceAdd, Nat.reduceMul]
  clear hV ht16
  refine WC_seq ?_
  refine WC_region ?_
  refine WL_det rfl (det_move) ?_
  dsimp only [put, List.take, List.drop, List.set, ev, nth, List.nil_append, List.cons_append, md, Nat.reducePow, Nat.reduceAdd, Nat.reduceMul]
  refine WL_det rfl (det_nilCheck rfl) ?_
  dsimp only [put, List.take, List.drop, List.set, ev, nth, List.nil_append, List.cons_append, md, Nat.reducePow, Nat.reduceAdd, Nat.reduceMul]
  refine WL_det rfl (det_fieldAddr 3 Try.underlying107 rfl Try.sizeOf3 rfl) ?_
  dsimp only [put, List.take, List.drop, List.set, ev, nth, List.nil_append, List.cons_append, md, Nat.reducePow, Nat.reduceAdd, Nat.reduceMul]
  refine WL_det rfl (det_load 0 Try.isAgg3 rfl rfl rfl) ?_
  dsimp only [put, List.take, List.drop, List.set, ev, nth, List.nil_append, List.cons_append, md, Nat.reducePow, Nat.reduceAdd, Nat.reduceMul]
  refine WL_det rfl (det_addi (q := 1) rfl rfl (by omega)) ?_
  dsimp only [put, List.take, List.drop, List.set, ev, nth, List.nil_append, List.cons_append, md, Nat.reducePow, Nat.reduceAdd, Nat.reduceMul]
  refine WL_det rfl (det_nilCheck rfl) ?_
  dsimp only [put, List.take, List.drop, List.set, ev, nth, List.nil_append, List.cons_append, md, Nat.reducePow, Nat.reduceAdd, Nat.reduceMul]
  refine WL_det rfl (det_fieldAddr 3 Try.underlying107 rfl Try.sizeOf3 rfl) ?_
  dsimp only [put, List.take, List.drop, List.set, ev, nth, List.nil_append, List.cons_append, md, Nat.reducePow, Nat.reduceAdd, Nat.reduceMul]
  refine WL_chg rfl (chg_storeC 0 (c' := #[.map (some mb2), nv2, .slice (some ⟨bo, oo, none⟩) N2.length co, vn .i64 (c + 1)]) Try.sizeOf3 rfl rfl (by simp) rfl (rfl) rfl) ?_
  rintro _ _ rfl
  dsimp only [put, List.take, List.drop, List.set, ev, nth, List.nil_append, List.cons_append, md, Nat.reducePow, Nat.reduceAdd, Nat.reduceMul]
  refine WL_nil ?_
  obtain ⟨M3, hM3, hp3⟩ := hback _ _ v14 e14 (O ia ++ [ib]) (c + 1) (RowO.put (rvl_len rv2 N2.length) hco hcm hcs hcur hia v14) (by rw [nv_snoc] at hr14; exact hr14)
  refine WC.perm (m' := M3 ++ m0) (hp3.append_right m0).symm ?_
  refine WC_seq ?_
  refine WC_region ?_
  refine WL_det rfl (det_assign) ?_
  dsimp only [put, List.take, List.drop, List.set, ev, nth, List.nil_append, List.cons_append, md, Nat.reducePow, Nat.reduceAdd, Nat.reduceMul]
  refine WL_nil ?_
  refine WC_ret ?_
  refine fin_tmp Try.results37 rfl (_) (List.Sublist.refl _) ?_
  exact ⟨_, ⟨rfl, hM3⟩, rfl⟩

end Go.Proofs.Ytocmlaloafmfkaa
