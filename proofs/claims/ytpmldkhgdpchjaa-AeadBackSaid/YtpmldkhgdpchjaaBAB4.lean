/- What the claim of this folder needs of its texts, put together by a program of this claim. Conditions: none. -/
import Derived.Test.YtpmldkhgdpchjaaBAB3
set_option linter.unusedVariables false
namespace Go.Proofs.Ytpmldkhgdpchjaa
open Go.MW
end Go.Proofs.Ytpmldkhgdpchjaa

set_option linter.unusedVariables false
namespace Go.Proofs.Ytpmldkhgdpchjaa
open Go.MW
def sameB (n : Nat) (f : Nat → Nat) (n2 : Nat) (g : Nat → Nat) : Bool := decide (n = n2) && eqA n f g
theorem sameB_len {n n2 : Nat} {f g : Nat → Nat} (h : ¬ n = n2) : sameB n f n2 g = false := by simp [sameB, h]
theorem sameB_ne {n i : Nat} {f g : Nat → Nat} (hi : i < n) (h : ¬ f i = g i) : sameB n f n g = false := by
  unfold sameB
  have : eqA n f g = false := by
    cases hh : eqA n f g with
    | false => rfl
    | true => exact absurd (eqA_iff.1 hh i hi) h
  rw [this, Bool.and_false]
theorem sameB_eq {n : Nat} {f g : Nat → Nat} (h : ∀ i, i < n → f i = g i) : sameB n f n g = true := by
  unfold sameB; rw [eqA_iff.2 h]; simp
theorem sameB_iff {n n2 : Nat} {f g : Nat → Nat} : sameB n f n2 g = true ↔ n = n2 ∧ ∀ i, i < n → f i = g i := by simp [sameB, eqA_iff]
set_option maxRecDepth 100000 in
set_option maxHeartbeats 400000 in
theorem same_spec (n n2 : Nat) (f g : Nat → Nat) (va vb : Value) (w : World) (ha : Rd w .u8 n f va) (hb : Rd w .u8 n2 g vb) (hn : n ≤ maxLen) :
    Calls Try.prog 20 [va, vb].toArray w (PostV w (.bool (sameB n f n2 g))) := by
  obtain ⟨p1, c1, b1, o1, rfl, hp1, hx1⟩ := ha
  obtain ⟨p2, c2, b2, o2, rfl, hp2, hx2⟩ := hb
  simp only [maxLen] at hn
  refine calls_of_WC Try.func20 rfl ?_
  simp only [Try.ntmps20, List.length_cons, List.length_nil, Nat.reduceAdd, Nat.reduceSub, List.replicate, List.cons_append, List.nil_append]
  refine WC_seq ?_
  refine WC_region ?_
  refine WL_det rfl (det_assign) ?_
  dsimp only [put, List.set, ev, nth, List.nil_append, List.cons_append, md, Nat.reducePow, Nat.reduceAdd, Nat.reduceMul]
  refine WL_nil ?_
  refine WC_seq ?_
  refine WC_seq ?_
  refine WC_region ?_
  refine WL_det rfl (det_move) ?_
  dsimp only [put, List.set, ev, nth, List.nil_append, List.cons_append, md, Nat.reducePow, Nat.reduceAdd, Nat.reduceMul]
  refine WL_det rfl (det_len Try.underlying35 rfl) ?_
  dsimp only [put, List.set, ev, nth, List.nil_append, List.cons_append, md, Nat.reducePow, Nat.reduceAdd, Nat.reduceMul]
  refine WL_det rfl (det_move) ?_
  dsimp only [put, List.set, ev, nth, List.nil_append, List.cons_append, md, Nat.reducePow, Nat.reduceAdd, Nat.reduceMul]
  refine WL_det rfl (det_len Try.underlying35 rfl) ?_
  dsimp only [put, List.set, ev, nth, List.nil_append, List.cons_append, md, Nat.reducePow, Nat.reduceAdd, Nat.reduceMul]
  refine WL_det rfl (det_neq rfl rfl) ?_
  dsimp only [put, List.set, ev, nth, List.nil_append, List.cons_append, md, Nat.reducePow, Nat.reduceAdd, Nat.reduceMul]
  refine WL_nil ?_
  refine WC_cond rfl (fun hc0 => ?_) (fun hc0 => ?_)
  · have hc0 : ¬ n = n2 := by simpa using hc0
    refine WC_seq ?_
    refine WC_region ?_
    refine WL_det rfl (det_assign) ?_
    dsimp only [put, List.set, ev, nth, List.nil_append, List.cons_append, md, Nat.reducePow, Nat.reduceAdd, Nat.reduceMul]
    refine WL_nil ?_
    refine WC_ret ?_
    refine fin_tmp Try.results20 rfl ([]) (List.nil_sublist _) ?_
    exact ⟨by first | (rw [sameB_len hc0]; rfl) | (rw [sameB_ne hc1 hc2]; rfl) | (rw [sameB_eq (fun j hj => hall j (by omega))]; rfl), rfl⟩
  · have hc0 : n = n2 := by simpa using hc0
    subst hc0
    refine WC_skip ?_
    refine WC_seq ?_
    refine WC_seq ?_
    refine WC_region ?_
    refine WL_det rfl (det_assign) ?_
    dsimp only [put, List.set, ev, nth, List.nil_append, List.cons_append, md, Nat.reducePow, Nat.reduceAdd, Nat.reduceMul]
    refine WL_nil ?_
    refine WC_block ?_
    refine WC_loopS (ι := Nat) [11, 12, 13, 14, 17, 18, 19, 20, 21, 22, 23, 24, 25, 4, 15, 16] (fun i => [(5, vn .i64 (i))]) (fun i => []) (fun i => i ≤ n ∧ ∀ j, j < i → f j = g j) (fun i => n - i) 0 ?_ ?_ ?_ ?_
    · rfl
    · rfl
    · exact ⟨Nat.zero_le _, fun j hj => by omega⟩
    · rintro i g' ⟨hi, hall⟩
      dsimp only [setAll, setG, setM, List.set]
      refine WC_seq ?_
      refine WC_seq ?_
      refine WC_region ?_
      refine WL_det rfl (det_move) ?_
      dsimp only [put, List.set, ev, nth, List.nil_append, List.cons_append, md, Nat.reducePow, Nat.reduceAdd, Nat.reduceMul]
      refine WL_det rfl (det_move) ?_
      dsimp only [put, List.set, ev, nth, List.nil_append, List.cons_append, md, Nat.reducePow, Nat.reduceAdd, Nat.reduceMul]
      refine WL_det rfl (det_len Try.underlying35 rfl) ?_
      dsimp only [put, List.set, ev, nth, List.nil_append, List.cons_append, md, Nat.reducePow, Nat.reduceAdd, Nat.reduceMul]
      refine WL_det rfl (det_lss rfl rfl) ?_
      dsimp only [put, List.set, ev, nth, List.nil_append, List.cons_append, md, Nat.reducePow, Nat.reduceAdd, Nat.reduceMul]
      refine WL_nil ?_
      refine WC_cond rfl (fun hc1 => ?_) (fun hc1 => ?_)
      · have hc1 := of_decide_eq_true hc1
        refine WC_skip ?_
        refine WC_seq ?_
        refine WC_block ?_
        refine WC_seq ?_
        refine WC_draw [[], [], [0, 1], [0, 1, 2], [], [], [4, 5], [4, 5, 6], [0, 1, 2, 3, 4, 5, 6, 7]] [] 26 [] (List.nil_sublist _) mixed rfl (by decide) ?_
        refine RW.pure rfl rfl (fun _ => rfl) (fun V hV => det_move) (fun _ _ _ => rfl) ?_
        dsimp only [put, List.set, ev, nth, List.nil_append, List.cons_append, md, Nat.reducePow, Nat.reduceAdd, Nat.reduceMul]
        refine RW.pure rfl rfl (fun _ => rfl) (fun V hV => det_move) (fun _ _ _ => rfl) ?_
        dsimp only [put, List.set, ev, nth, List.nil_append, List.cons_append, md, Nat.reducePow, Nat.reduceAdd, Nat.reduceMul]
        refine RW.pure rfl rfl (fun _ => rfl) (fun V hV => det_idxS Try.underlying35 Try.sizeOf5 rfl rfl (rfl) (by omega) (hp1 (by omega))) (fun _ _ _ => rfl) ?_
        dsimp only [put, List.set, ev, nth, List.nil_append, List.cons_append, md, Nat.reducePow, Nat.reduceAdd, Nat.reduceMul]
        refine RW.det [] rfl rfl rfl rfl (fun _ => rfl) (fun V hV => Det.rel (det_loadF Try.isAgg5 rfl (hx1 _ (by omega)))) (fun _ _ _ => rfl) ?_
        dsimp only [put, List.set, ev, nth, List.nil_append, List.cons_append, md, Nat.reducePow, Nat.reduceAdd, Nat.reduceMul]
        refine RW.pure rfl rfl (fun _ => rfl) (fun V hV => det_move) (fun _ _ _ => rfl) ?_
        dsimp only [put, List.set, ev, nth, List.nil_append, List.cons_append, md, Nat.reducePow, Nat.reduceAdd, Nat.reduceMul]
        refine RW.pure rfl rfl (fun _ => rfl) (fun V hV => det_move) (fun _ _ _ => rfl) ?_
        dsimp only [put, List.set, ev, nth, List.nil_append, List.cons_append, md, Nat.reducePow, Nat.reduceAdd, Nat.reduceMul]
        refine RW.pure rfl rfl (fun _ => rfl) (fun V hV => det_idxS Try.underlying35 Try.sizeOf5 rfl rfl (rfl) (by omega) (hp2 (by omega))) (fun _ _ _ => rfl) ?_
        dsimp only [put, List.set, ev, nth, List.nil_append, List.cons_append, md, Nat.reducePow, Nat.reduceAdd, Nat.reduceMul]
        refine RW.det [] rfl rfl rfl rfl (fun _ => rfl) (fun V hV => Det.rel (det_loadF Try.isAgg5 rfl (hx2 _ (by omega)))) (fun _ _ _ => rfl) ?_
        dsimp only [put, List.set, ev, nth, List.nil_append, List.cons_append, md, Nat.reducePow, Nat.reduceAdd, Nat.reduceMul]
        refine RW.pure rfl rfl (fun _ => rfl) (fun V hV => det_neq rfl rfl) (fun _ _ _ => rfl) ?_
        dsimp only [put, List.set, ev, nth, List.nil_append, List.cons_append, md, Nat.reducePow, Nat.reduceAdd, Nat.reduceMul]
        refine RW.done (fun V => _ ++ flat [] V) rfl rfl (fun _ => rfl) (fun V hV => ?_)
        try dsimp only [put, blk, flat_nil, List.append_nil, List.append, List.eraseIdx, List.set, ev, nth, List.nil_append, List.cons_append, md, Nat.reducePow, Nat.reduceAdd, Nat.reduceMul]
        refine WC_cond rfl (fun hc2 => ?_) (fun hc2 => ?_)
        · have hc2 : ¬ f i = g i := by simpa using hc2
          refine WC_seq ?_
          refine WC_region ?_
          refine WL_det rfl (det_assign) ?_
          dsimp only [put, List.set, ev, nth, List.nil_append, List.cons_append, md, Nat.reducePow, Nat.reduceAdd, Nat.reduceMul]
          refine WL_nil ?_
          refine WC_ret ?_
          refine inB_ret ?_
          refine inB_ret ?_
          refine fin_tmp Try.results20 rfl ([]) (List.nil_sublist _) ?_
          exact ⟨by first | (rw [sameB_len hc0]; rfl) | (rw [sameB_ne hc1 hc2]; rfl) | (rw [sameB_eq (fun j hj => hall j (by omega))]; rfl), rfl⟩
        · have hc2 : f i = g i := by simpa using hc2
          refine WC_skip ?_
          refine WC_region ?_
          refine WL_det rfl (det_move) ?_
          dsimp only [put, List.set, ev, nth, List.nil_append, List.cons_append, md, Nat.reducePow, Nat.reduceAdd, Nat.reduceMul]
          refine WL_det rfl (det_addi (q := 1) rfl rfl (by omega)) ?_
          dsimp only [put, List.set, ev, nth, List.nil_append, List.cons_append, md, Nat.reducePow, Nat.reduceAdd, Nat.reduceMul]
          refine WL_det rfl (det_assign) ?_
          dsimp only [put, List.set, ev, nth, List.nil_append, List.cons_append, md, Nat.reducePow, Nat.reduceAdd, Nat.reduceMul]
          refine WL_nil ?_
          refine ⟨i + 1, ?_, ?_, ?_, ?_⟩
          · rfl
          · rfl
          · exact ⟨by omega, fun j hj => by rcases Nat.lt_succ_iff_lt_or_eq.1 hj with h | h; exact hall j h; rw [h]; exact hc2⟩
          · omega
      · have hc1 := of_decide_eq_false hc1
        refine WC_exit ?_
        refine inB_same ?_
        refine WC_seq ?_
        refine WC_region ?_
        refine WL_det rfl (det_assign) ?_
        dsimp only [put, List.set, ev, nth, List.nil_append, List.cons_append, md, Nat.reducePow, Nat.reduceAdd, Nat.reduceMul]
        refine WL_nil ?_
        refine WC_ret ?_
        refine fin_tmp Try.results20 rfl ([]) (List.nil_sublist _) ?_
        exact ⟨by first | (rw [sameB_len hc0]; rfl) | (rw [sameB_ne hc1 hc2]; rfl) | (rw [sameB_eq (fun j hj => hall j (by omega))]; rfl), rfl⟩

end Go.Proofs.Ytpmldkhgdpchjaa

set_option linter.unusedVariables false
namespace Go.Proofs.Ytpmldkhgdpchjaa
open Go.MW
def offOf (tn : Nat → Nat) : Nat → Nat
  | 0 => 0
  | k + 1 => offOf tn k + tn k
/-- The tag of texts that a literal lists. -/
theorem tag_list (K q : Nat) (c : Array Value) (tv : Nat → Value) (tn : Nat → Nat) (tf : Nat → Nat → Nat) (F : Nat → Nat) (hF : ∀ i, i < q → ∀ j, j < tn i → F (offOf tn i + j) = tf i j) (hN : offOf tn q ≤ 1000000) (hq : q ≤ 1000) (hb : ∀ i, i < offOf tn q → F i < 256) (hc : ∀ i, i < q → c[i]? = some (tv i))
    {w0 w : World} {mm mi : Mem} {vs : Value} (hw : Has w0 mm w) (hs : mi.Sublist mm) (h : IsSl q c 35 vs mi) (ht : ∀ i, i < q → Rd w .u8 (tn i) (tf i) (tv i)) :
    Calls Try.prog 46 [.agg (arr .u8 32 (byt K)), vs].toArray w (PostV w (.agg (arr .u8 16 (byt (tagZ F (offOf tn q) K))))) := by
  obtain ⟨b, rfl, rfl⟩ := h
  have hw' := hw.sub hs
  exact tag_spec K (some ⟨b, 0, none⟩) q q b 0 tv tn (offOf tn) tf F (fun _ => rfl) rfl (fun _ => rfl) hF hN hq hb w (fun i hi => by simp [World.cell?, hw'.at 0 rfl, hc i hi]) ht
theorem same_true (n : Nat) (f g : Nat → Nat) (h : ∀ i, i < n → f i = g i) (hn : n ≤ maxLen) (va vb : Value) (w : World) (ha : Rd w .u8 n f va) (hb : Rd w .u8 n g vb) : Calls Try.prog 20 [va, vb].toArray w (PostV w (.bool true)) := by
  have hh := same_spec n n f g va vb w ha hb hn
  rwa [sameB_eq h] at hh

end Go.Proofs.Ytpmldkhgdpchjaa

set_option linter.unusedVariables false
namespace Go.Proofs.Ytpmldkhgdpchjaa
open Go.MW
end Go.Proofs.Ytpmldkhgdpchjaa
