/- What the claim of this folder needs of its texts, put together by a program of this claim. Conditions: none. -/
import Derived.Test.YtocmlaloafmfkaaBMD5
set_option linter.unusedVariables false
namespace Go.Proofs.Ytocmlaloafmfkaa
open Go.MW
theorem up_len {K : Bx} {X : Nat → List Int} (hX : ∀ a, a < 3 → (X a).length ≤ K.R a) (a : Nat) {l : List Int} (hl : l.length ≤ K.R a) : ∀ j, j < 3 → (up X a l j).length ≤ K.R j := by
  intro j hj
  by_cases h : j = a
  · subst h; rw [up_self]; exact hl
  · rw [up_ne _ _ h]; exact hX j hj
theorem mv_len {K : Bx} {X : Nat → List Int} (hX : ∀ a, a < 3 → (X a).length ≤ K.R a) (a b : Nat) (ha : a < 3) (hb : b < 3) : ∀ j, j < 3 → (mv X a b (min (X a).length (K.R b - (X b).length)) j).length ≤ K.R j := by
  have h1 := hX a ha
  have h2 := hX b hb
  exact up_len (up_len hX a (by simp; omega)) b (by simp; omega)
theorem RowV.none0 (t : TypeId) (g : Nat → Value) (b : Nat) : RowV t 0 g (.slice (some ⟨b, 0, none⟩) 0 0) (some b, .cells #[] t (0, 0)) := .inr ⟨b, 0, #[], rfl, rfl, Nat.le_refl _, Nat.zero_le _, rfl, fun i hi => absurd hi (Nat.not_lt_zero _)⟩
theorem hflat0 {w0 w : World} {m : Mem} {V : Sel} (hw : Has w0 (m ++ flat [] V) w) : Has w0 m w := by simpa only [flat_nil, List.append_nil] using hw
theorem ints_same (l : List Int) (va vb : Value) (hn : l.length ≤ 1000000) (w : World) (ha : RdZ w l va) (hb : RdZ w l vb) : Calls Try.prog 21 #[va, vb] w (PostV w (.bool true)) := by
  have := ints_spec l l va vb hn w ha hb
  rwa [decide_eq_true rfl] at this
theorem tg3_0 (a b c : Value) : tg (.tuple #[a, b, c]) 0 = a := rfl
theorem tg3_1 (a b c : Value) : tg (.tuple #[a, b, c]) 1 = b := rfl
theorem tg3_2 (a b c : Value) : tg (.tuple #[a, b, c]) 2 = c := rfl
def FirstC (X : Nat → List Int) (a b i : Nat) (x : Int) (ok : Bool) (X1 : Nat → List Int) : Prop :=
    ((ok = true ∧ i < 4 ∧ i ≠ 1 ∧ (∀ j, j < i → j ≠ 1 → X (fq a b j) = []) ∧ X (fq a b i) ≠ [] ∧ x = (X (fq a b i)).headD 0 ∧ X1 = up X (fq a b i) (X (fq a b i)).tail) ∨
     (ok = false ∧ i = 0 ∧ x = 0 ∧ (∀ j, j < 4 → j ≠ 1 → X (fq a b j) = []) ∧ X1 = X))
theorem first_found {X X1 : Nat → List Int} {a b i k : Nat} {x : Int} {ok : Bool} (h : FirstC X a b i x ok X1) (hk : k < 4) (hk1 : k ≠ 1) (hall : ∀ j, j < k → j ≠ 1 → X (fq a b j) = []) (hne : X (fq a b k) ≠ []) :
    ok = true ∧ i = k ∧ x = (X (fq a b k)).headD 0 ∧ X1 = up X (fq a b k) (X (fq a b k)).tail := by
  rcases h with ⟨h1, h2, h3, h4, h5, h6, h7⟩ | ⟨_, _, _, h4, _⟩
  · have : i = k := by
      rcases Nat.lt_trichotomy i k with h | h | h
      · exact absurd (hall i h h3) h5
      · exact h
      · exact absurd (h4 k h hk1) hne
    subst this
    exact ⟨h1, rfl, h6, h7⟩
  · exact absurd (h4 k hk hk1) hne
theorem first_none {X X1 : Nat → List Int} {a b i : Nat} {x : Int} {ok : Bool} (h : FirstC X a b i x ok X1) (hall : ∀ j, j < 4 → j ≠ 1 → X (fq a b j) = []) : ok = false ∧ i = 0 ∧ x = 0 ∧ X1 = X := by
  rcases h with ⟨h1, h2, h3, h4, h5, h6, h7⟩ | ⟨h1, h2, h3, h4, h5⟩
  · exact absurd (hall i h2 h3) h5
  · exact ⟨h1, h2, h3, h5⟩

set_option maxRecDepth 100000 in
set_option maxHeartbeats 2000000 in
theorem one_put (K : Bx) (X : Nat → List Int) (lv : Nat → Value) (M : Mem) (hM : BMl 3 K X X lv M) (hX : ∀ a, a < 3 → (X a).length ≤ K.R a) (hR : ∀ a, a < 3 → K.R a ≤ 9) (rb rb2 cL cW : Nat) (cl cw : Array Value) (hrl : ∀ a, a < 3 → cl[a]? = some (pS K a)) (hrw : ∀ a, a < 3 → cw[a]? = some (pW K a)) (op d1 d2 d3 : Int) (a b : Nat) (hpa : pl d1 = a) (hpb : pl d2 = b) (hop : op = 1) {w0 : World} {m0 : Mem} {w : World} (hw0 : Has w0 ((some rb, .cells cl 39 (0, 0)) :: (some rb2, .cells cw 42 (0, 0)) :: (M ++ m0)) w) :
    Calls Try.prog 20 [.slice (some ⟨rb, 0, none⟩) 3 cL, .slice (some ⟨rb2, 0, none⟩) 3 cW, .agg #[.int .i64 op, .int .i64 d1, .int .i64 d2, .int .i64 d3]].toArray w (Post w0 fun v m => ∃ M1, (v = .bool true ∧ ∃ X' lv', (∀ a, a < 3 → (X' a).length ≤ K.R a) ∧ BMl 3 K X' X' lv' M1) ∧ m = (some rb, .cells cl 39 (0, 0)) :: (some rb2, .cells cw 42 (0, 0)) :: (M1 ++ m0)) := by
  have ha : a < 3 := hpa ▸ pl_lt d1
  have hb : b < 3 := hpb ▸ pl_lt d2
  have hRa := hR a ha
  have hRb := hR b hb
  have hXa := hX a ha
  have hXb := hX b hb
  refine calls_of_WCm Try.func20 rfl ?_ hw0
  simp only [Try.ntmps20, List.length_cons, List.length_nil, Nat.reduceAdd, Nat.reduceSub, List.replicate, List.cons_append, List.nil_append]
  refine WC_seq ?_
  refine WC_region ?_
  refine WL_relAt 2 rfl (rel_box rfl rfl) ?_
  rintro _ _ ⟨b2, rfl, rfl⟩
  dsimp only [put, List.take, List.drop, List.set, ev, nth, List.nil_append, List.cons_append, md, Nat.reducePow, Nat.reduceAdd, Nat.reduceMul]
  refine WL_det rfl (det_assign) ?_
  dsimp only [put, List.take, List.drop, List.set, ev, nth, List.nil_append, List.cons_append, md, Nat.reducePow, Nat.reduceAdd, Nat.reduceMul]
  refine WL_nil ?_
  refine WC_seq ?_
  refine WC_draw [[], [0], [0, 1], [], [3], [0, 1, 2, 3, 4], [0, 1, 2, 3, 4, 5], [0, 1, 2, 3, 4, 5, 6]] [] 210 [] (List.nil_sublist _) mixed rfl (by decide) ?_
  refine RW.pure rfl rfl (fun _ => rfl) (fun V hV => det_fieldAddr 1 Try.underlying47 rfl Try.sizeOf3 rfl) (fun _ _ _ => rfl) ?_
  dsimp only [put, List.set, ev, nth, List.nil_append, List.cons_append, md, Nat.reducePow, Nat.reduceAdd, Nat.reduceMul]
  refine RW.det [] rfl rfl rfl rfl (fun _ => rfl) (fun V hV => Det.rel (det_load 2 Try.isAgg3 rfl rfl rfl)) (fun _ _ _ => rfl) ?_
  dsimp only [put, List.set, ev, nth, List.nil_append, List.cons_append, md, Nat.reducePow, Nat.reduceAdd, Nat.reduceMul]
  refine RW.det [] rfl rfl rfl rfl (fun _ => rfl) (fun V hV => Rel_call rfl Try.call43 (fun w hw => place_k d1 a hpa w)) (fun _ _ _ => rfl) ?_
  dsimp only [put, List.set, ev, nth, List.nil_append, List.cons_append, md, Nat.reducePow, Nat.reduceAdd, Nat.reduceMul]
  refine RW.pure rfl rfl (fun _ => rfl) (fun V hV => det_fieldAddr 2 Try.underlying47 rfl Try.sizeOf3 rfl) (fun _ _ _ => rfl) ?_
  dsimp only [put, List.set, ev, nth, List.nil_append, List.cons_append, md, Nat.reducePow, Nat.reduceAdd, Nat.reduceMul]
  refine RW.det [] rfl rfl rfl rfl (fun _ => rfl) (fun V hV => Det.rel (det_load 2 Try.isAgg3 rfl rfl rfl)) (fun _ _ _ => rfl) ?_
  dsimp only [put, List.set, ev, nth, List.nil_append, List.cons_append, md, Nat.reducePow, Nat.reduceAdd, Nat.reduceMul]
  refine RW.det [] rfl rfl rfl rfl (fun _ => rfl) (fun V hV => Rel_call rfl Try.call43 (fun w hw => place_k d2 b hpb w)) (fun _ _ _ => rfl) ?_
  dsimp only [put, List.set, ev, nth, List.nil_append, List.cons_append, md, Nat.reducePow, Nat.reduceAdd, Nat.reduceMul]
  refine RW.pure rfl rfl (fun _ => rfl) (fun V hV => det_assign) (fun _ _ _ => rfl) ?_
  dsimp only [put, List.set, ev, nth, List.nil_append, List.cons_append, md, Nat.reducePow, Nat.reduceAdd, Nat.reduceMul]
  refine RW.pure rfl rfl (fun _ => rfl) (fun V hV => det_assign) (fun _ _ _ => rfl) ?_
  dsimp only [put, List.set, ev, nth, List.nil_append, List.cons_append, md, Nat.reducePow, Nat.reduceAdd, Nat.reduceMul]
  refine RW.done (fun V => _ ++ flat [] V) rfl rfl (fun _ => rfl) (fun V hV => ?_)
  try simp only [flat_nil, List.append_nil]
  try dsimp only [put, blk, flat_nil, List.append_nil, List.append, List.eraseIdx, List.set, ev, nth, List.nil_append, List.cons_append, md, Nat.reducePow, Nat.reduceAdd, Nat.reduceMul]
  refine WC_seq ?_
  refine WC_seq ?_
  refine WC_region ?_
  refine WL_det rfl (det_fieldAddr 0 Try.underlying47 rfl Try.sizeOf3 rfl) ?_
  dsimp only [put, List.take, List.drop, List.set, ev, nth, List.nil_append, List.cons_append, md, Nat.reducePow, Nat.reduceAdd, Nat.reduceMul]
  refine WL_det rfl (det_load 2 Try.isAgg3 rfl rfl rfl) ?_
  dsimp only [put, List.take, List.drop, List.set, ev, nth, List.nil_append, List.cons_append, md, Nat.reducePow, Nat.reduceAdd, Nat.reduceMul]
  refine WL_nil ?_
  refine WC_block ?_
  refine WC_seq ?_
  refine WC_region ?_
  refine WL_det rfl (Det.bv true (det_eqlz rfl rfl) (by simpa using hop)) ?_
  dsimp only [put, List.take, List.drop, List.set, ev, nth, List.nil_append, List.cons_append, md, Nat.reducePow, Nat.reduceAdd, Nat.reduceMul]
  refine WL_det rfl (det_assign) ?_
  dsimp only [put, List.take, List.drop, List.set, ev, nth, List.nil_append, List.cons_append, md, Nat.reducePow, Nat.reduceAdd, Nat.reduceMul]
  refine WL_nil ?_
  refine WC_cond_true rfl ?_
  refine WC_seq ?_
  refine WC_draw [[], [], [0, 1], [0, 1, 2], [], [4], [0, 1, 2, 3, 4, 5], [], [], [7, 8], [7, 8, 9], [], [11], [0, 1, 2, 3, 4, 5, 6, 7, 8, 9, 10, 11, 12], [0, 1, 2, 3, 4, 5, 6, 7, 8, 9, 10, 11, 12, 13], [0, 1, 2, 3, 4, 5, 6, 7, 8, 9, 10, 11, 12, 13, 14]] [6, 13] 210 _ (.cons_cons _ (.cons_cons _ (.cons_cons _ (List.nil_sublist _)))) mixed rfl (by decide) ?_
  refine RW.pure rfl rfl (fun _ => rfl) (fun V hV => det_move) (fun _ _ _ => rfl) ?_
  dsimp only [put, List.set, ev, nth, List.nil_append, List.cons_append, md, Nat.reducePow, Nat.reduceAdd, Nat.reduceMul]
  refine RW.pure rfl rfl (fun _ => rfl) (fun V hV => det_move) (fun _ _ _ => rfl) ?_
  dsimp only [put, List.set, ev, nth, List.nil_append, List.cons_append, md, Nat.reducePow, Nat.reduceAdd, Nat.reduceMul]
  refine RW.pure rfl rfl (fun _ => rfl) (fun V hV => det_idxS0 Try.underlying37 Try.sizeOf39 rfl rfl (rfl) (by omega)) (fun _ _ _ => rfl) ?_
  dsimp only [put, List.set, ev, nth, List.nil_append, List.cons_append, md, Nat.reducePow, Nat.reduceAdd, Nat.reduceMul]
  refine RW.det [] rfl rfl rfl rfl (fun _ => rfl) (fun V hV => Det.rel (det_load 0 Try.isAgg39 rfl rfl (hrl _ (by omega)))) (fun _ _ _ => rfl) ?_
  dsimp only [put, List.set, ev, nth, List.nil_append, List.cons_append, md, Nat.reducePow, Nat.reduceAdd, Nat.reduceMul]
  refine RW.pure rfl rfl (fun _ => rfl) (fun V hV => det_fieldAddr 3 Try.underlying47 rfl Try.sizeOf3 rfl) (fun _ _ _ => rfl) ?_
  dsimp only [put, List.set, ev, nth, List.nil_append, List.cons_append, md, Nat.reducePow, Nat.reduceAdd, Nat.reduceMul]
  refine RW.det [] rfl rfl rfl rfl (fun _ => rfl) (fun V hV => Det.rel (det_load 2 Try.isAgg3 rfl rfl rfl)) (fun _ _ _ => rfl) ?_
  dsimp only [put, List.set, ev, nth, List.nil_append, List.cons_append, md, Nat.reducePow, Nat.reduceAdd, Nat.reduceMul]
  refine RW.tail' (R0 := fun _ v m' => ∃ m1, (v = .bool (decide ((X a).length < K.R a)) ∧ BMl 3 K (up X a (if (X a).length < K.R a then X a ++ [d3] else X a)) X lv m1) ∧ m' = (some rb, .cells cl 39 (0, 0)) :: (some rb2, .cells cw 42 (0, 0)) :: (some b2, .cells #[.int .i64 op, .int .i64 d1, .int .i64 d2, .int .i64 d3] 47 (0, 0)) :: (m1 ++ m0)) (B := fun V => _ ++ flat [] V) rfl rfl rfl rfl (fun _ => rfl) (fun V hV => by
        simp only [flat_nil, List.append_nil]
        exact Chg_callT [_, _, _] _ _ rfl Try.call40 rfl (fun w mm hw => putB hM ha d3 w mm hw)) (fun _ _ _ _ _ h => h) (fun V hV v m' h => by obtain ⟨_, _, rfl⟩ := h; exact (.cons_cons _ (.cons_cons _ (.cons_cons _ (List.nil_sublist _))))) ?_
  dsimp only [put, List.set, ev, nth, List.nil_append, List.cons_append, md, Nat.reducePow, Nat.reduceAdd, Nat.reduceMul]
  refine RW.pure rfl rfl (fun _ => rfl) (fun V hV => det_move) (fun _ _ _ => rfl) ?_
  dsimp only [put, List.set, ev, nth, List.nil_append, List.cons_append, md, Nat.reducePow, Nat.reduceAdd, Nat.reduceMul]
  refine RW.pure rfl rfl (fun _ => rfl) (fun V hV => det_move) (fun _ _ _ => rfl) ?_
  dsimp only [put, List.set, ev, nth, List.nil_append, List.cons_append, md, Nat.reducePow, Nat.reduceAdd, Nat.reduceMul]
  refine RW.pure rfl rfl (fun _ => rfl) (fun V hV => det_idxS0 Try.underlying38 Try.sizeOf42 rfl rfl (rfl) (by omega)) (fun _ _ _ => rfl) ?_
  dsimp only [put, List.set, ev, nth, List.nil_append, List.cons_append, md, Nat.reducePow, Nat.reduceAdd, Nat.reduceMul]
  refine RW.pure rfl rfl (fun _ => rfl) (fun V hV => det_load 1 Try.isAgg42 rfl rfl (hrw _ (by omega))) (fun _ _ _ => rfl) ?_
  dsimp only [put, List.set, ev, nth, List.nil_append, List.cons_append, md, Nat.reducePow, Nat.reduceAdd, Nat.reduceMul]
  refine RW.pure rfl rfl (fun _ => rfl) (fun V hV => det_fieldAddr 3 Try.underlying47 rfl Try.sizeOf3 rfl) (fun _ _ _ => rfl) ?_
  dsimp only [put, List.set, ev, nth, List.nil_append, List.cons_append, md, Nat.reducePow, Nat.reduceAdd, Nat.reduceMul]
  refine RW.pure rfl rfl (fun _ => rfl) (fun V hV => det_load 2 Try.isAgg3 rfl rfl rfl) (fun _ _ _ => rfl) ?_
  dsimp only [put, List.set, ev, nth, List.nil_append, List.cons_append, md, Nat.reducePow, Nat.reduceAdd, Nat.reduceMul]
  refine RW.tail' (R0 := fun _ v m' => ∃ m1, (v = .bool (decide ((X a).length < K.R a)) ∧ ∃ lv', BMl 3 K (up X a (if (X a).length < K.R a then X a ++ [d3] else X a)) (up X a (if (X a).length < K.R a then X a ++ [d3] else X a)) lv' m1) ∧ m' = (some rb, .cells cl 39 (0, 0)) :: (some rb2, .cells cw 42 (0, 0)) :: (some b2, .cells #[.int .i64 op, .int .i64 d1, .int .i64 d2, .int .i64 d3] 47 (0, 0)) :: (m1 ++ m0)) (B := fun V => (V 6).2) rfl rfl rfl rfl (fun _ => rfl) (fun V hV => by
        obtain ⟨MT, ⟨_, hMT⟩, hp⟩ := hV 6 (by decide) _ rfl
        rw [hp]
        exact Chg_callT [_, _, _] _ _ rfl Try.call44 rfl (fun w mm hw => rputB hMT ha (by omega) d3 w mm hw)) (fun _ _ _ _ _ h => h) (fun V hV v m' h => by obtain ⟨_, _, rfl⟩ := h; exact (.cons_cons _ (.cons_cons _ (.cons_cons _ (List.nil_sublist _))))) ?_
  dsimp only [put, List.set, ev, nth, List.nil_append, List.cons_append, md, Nat.reducePow, Nat.reduceAdd, Nat.reduceMul]
  refine RW.pure (e := fun _ => .bool true) rfl rfl (fun _ => rfl) (fun V hV => Det.bv true (det_eqlB (by obtain ⟨_, ⟨h, _⟩, _⟩ := hV 6 (by decide) _ rfl; exact h) (by obtain ⟨_, ⟨h, _⟩, _⟩ := hV 13 (by decide) _ rfl; exact h) Try.underlying4) (by simp)) (fun V V' hV => by first | rfl | (dsimp only [ev, nth]; simp only [hV 6 (by decide), hV 13 (by decide)])) ?_
  dsimp only [put, List.set, ev, nth, List.nil_append, List.cons_append, md, Nat.reducePow, Nat.reduceAdd, Nat.reduceMul]
  refine RW.pure rfl rfl (fun _ => rfl) (fun V hV => det_assign) (fun _ _ _ => rfl) ?_
  dsimp only [put, List.set, ev, nth, List.nil_append, List.cons_append, md, Nat.reducePow, Nat.reduceAdd, Nat.reduceMul]
  refine RW.done (fun V => (V 13).2) rfl rfl (fun _ => rfl) (fun V hV => ?_)
  obtain ⟨MT6, ⟨hv6, hM6⟩, ht6⟩ := hV 6 _ rfl
  obtain ⟨MT13, ⟨hv13, lv13, hM13⟩, ht13⟩ := hV 13 _ rfl
  simp only [hv6, hv13, ht13, List.append_nil, flat_nil]
  try simp only [flat_nil, List.append_nil]
  try dsimp only [put, blk, flat_nil, List.append_nil, List.append, List.eraseIdx, List.set, ev, nth, List.nil_append, List.cons_append, md, Nat.reducePow, Nat.reduceAdd, Nat.reduceMul]
  clear hV ht13
  refine WC_ret ?_
  refine inB_ret ?_
  refine fin_tmp Try.results20 rfl (_) (.cons_cons _ (.cons_cons _ (.cons _ (List.Sublist.refl _)))) ?_
  exact ⟨_, ⟨rfl, _, lv13, up_len hX a (by split; simp; omega; omega), hM13⟩, rfl⟩

set_option maxRecDepth 100000 in
set_option maxHeartbeats 2000000 in
theorem one_take (K : Bx) (X : Nat → List Int) (lv : Nat → Value) (M : Mem) (hM : BMl 3 K X X lv M) (hX : ∀ a, a < 3 → (X a).length ≤ K.R a) (hR : ∀ a, a < 3 → K.R a ≤ 9) (rb rb2 cL cW : Nat) (cl cw : Array Value) (hrl : ∀ a, a < 3 → cl[a]? = some (pS K a)) (hrw : ∀ a, a < 3 → cw[a]? = some (pW K a)) (op d1 d2 d3 : Int) (a b : Nat) (hpa : pl d1 = a) (hpb : pl d2 = b) (hop : op = 2) {w0 : World} {m0 : Mem} {w : World} (hw0 : Has w0 ((some rb, .cells cl 39 (0, 0)) :: (some rb2, .cells cw 42 (0, 0)) :: (M ++ m0)) w) :
    Calls Try.prog 20 [.slice (some ⟨rb, 0, none⟩) 3 cL, .slice (some ⟨rb2, 0, none⟩) 3 cW, .agg #[.int .i64 op, .int .i64 d1, .int .i64 d2, .int .i64 d3]].toArray w (Post w0 fun v m => ∃ M1, (v = .bool true ∧ ∃ X' lv', (∀ a, a < 3 → (X' a).length ≤ K.R a) ∧ BMl 3 K X' X' lv' M1) ∧ m = (some rb, .cells cl 39 (0, 0)) :: (some rb2, .cells cw 42 (0, 0)) :: (M1 ++ m0)) := by
  have ha : a < 3 := hpa ▸ pl_lt d1
  have hb : b < 3 := hpb ▸ pl_lt d2
  have hRa := hR a ha
  have hRb := hR b hb
  have hXa := hX a ha
  have hXb := hX b hb
  refine calls_of_WCm Try.func20 rfl ?_ hw0
  simp only [Try.ntmps20, List.length_cons, List.length_nil, Nat.reduceAdd, Nat.reduceSub, List.replicate, List.cons_append, List.nil_append]
  refine WC_seq ?_
  refine WC_region ?_
  refine WL_relAt 2 rfl (rel_box rfl rfl) ?_
  rintro _ _ ⟨b2, rfl, rfl⟩
  dsimp only [put, List.take, List.drop, List.set, ev, nth, List.nil_append, List.cons_append, md, Nat.reducePow, Nat.reduceAdd, Nat.reduceMul]
  refine WL_det rfl (det_assign) ?_
  dsimp only [put, List.take, List.drop, List.set, ev, nth, List.nil_append, List.cons_append, md, Nat.reducePow, Nat.reduceAdd, Nat.reduceMul]
  refine WL_nil ?_
  refine WC_seq ?_
  refine WC_draw [[], [0], [0, 1], [], [3], [0, 1, 2, 3, 4], [0, 1, 2, 3, 4, 5], [0, 1, 2, 3, 4, 5, 6]] [] 210 [] (List.nil_sublist _) mixed rfl (by decide) ?_
  refine RW.pure rfl rfl (fun _ => rfl) (fun V hV => det_fieldAddr 1 Try.underlying47 rfl Try.sizeOf3 rfl) (fun _ _ _ => rfl) ?_
  dsimp only [put, List.set, ev, nth, List.nil_append, List.cons_append, md, Nat.reducePow, Nat.reduceAdd, Nat.reduceMul]
  refine RW.det [] rfl rfl rfl rfl (fun _ => rfl) (fun V hV => Det.rel (det_load 2 Try.isAgg3 rfl rfl rfl)) (fun _ _ _ => rfl) ?_
  dsimp only [put, List.set, ev, nth, List.nil_append, List.cons_append, md, Nat.reducePow, Nat.reduceAdd, Nat.reduceMul]
  refine RW.det [] rfl rfl rfl rfl (fun _ => rfl) (fun V hV => Rel_call rfl Try.call43 (fun w hw => place_k d1 a hpa w)) (fun _ _ _ => rfl) ?_
  dsimp only [put, List.set, ev, nth, List.nil_append, List.cons_append, md, Nat.reducePow, Nat.reduceAdd, Nat.reduceMul]
  refine RW.pure rfl rfl (fun _ => rfl) (fun V hV => det_fieldAddr 2 Try.underlying47 rfl Try.sizeOf3 rfl) (fun _ _ _ => rfl) ?_
  dsimp only [put, List.set, ev, nth, List.nil_append, List.cons_append, md, Nat.reducePow, Nat.reduceAdd, Nat.reduceMul]
  refine RW.det [] rfl rfl rfl rfl (fun _ => rfl) (fun V hV => Det.rel (det_load 2 Try.isAgg3 rfl rfl rfl)) (fun _ _ _ => rfl) ?_
  dsimp only [put, List.set, ev, nth, List.nil_append, List.cons_append, md, Nat.reducePow, Nat.reduceAdd, Nat.reduceMul]
  refine RW.det [] rfl rfl rfl rfl (fun _ => rfl) (fun V hV => Rel_call rfl Try.call43 (fun w hw => place_k d2 b hpb w)) (fun _ _ _ => rfl) ?_
  dsimp only [put, List.set, ev, nth, List.nil_append, List.cons_append, md, Nat.reducePow, Nat.reduceAdd, Nat.reduceMul]
  refine RW.pure rfl rfl (fun _ => rfl) (fun V hV => det_assign) (fun _ _ _ => rfl) ?_
  dsimp only [put, List.set, ev, nth, List.nil_append, List.cons_append, md, Nat.reducePow, Nat.reduceAdd, Nat.reduceMul]
  refine RW.pure rfl rfl (fun _ => rfl) (fun V hV => det_assign) (fun _ _ _ => rfl) ?_
  dsimp only [put, List.set, ev, nth, List.nil_append, List.cons_append, md, Nat.reducePow, Nat.reduceAdd, Nat.reduceMul]
  refine RW.done (fun V => _ ++ flat [] V) rfl rfl (fun _ => rfl) (fun V hV => ?_)
  try simp only [flat_nil, List.append_nil]
  try dsimp only [put, blk, flat_nil, List.append_nil, List.append, List.eraseIdx, List.set, ev, nth, List.nil_append, List.cons_append, md, Nat.reducePow, Nat.reduceAdd, Nat.reduceMul]
  refine WC_seq ?_
  refine WC_seq ?_
  refine WC_region ?_
  refine WL_det rfl (det_fieldAddr 0 Try.underlying47 rfl Try.sizeOf3 rfl) ?_
  dsimp only [put, List.take, List.drop, List.set, ev, nth, List.nil_append, List.cons_append, md, Nat.reducePow, Nat.reduceAdd, Nat.reduceMul]
  refine WL_det rfl (det_load 2 Try.isAgg3 rfl rfl rfl) ?_
  dsimp only [put, List.take, List.drop, List.set, ev, nth, List.nil_append, List.cons_append, md, Nat.reducePow, Nat.reduceAdd, Nat.reduceMul]
  refine WL_nil ?_
  refine WC_block ?_
  refine WC_seq ?_
  refine WC_region ?_
  refine WL_det rfl (Det.bv false (det_eqlz rfl rfl) (by simp; omega)) ?_
  dsimp only [put, List.take, List.drop, List.set, ev, nth, List.nil_append, List.cons_append, md, Nat.reducePow, Nat.reduceAdd, Nat.reduceMul]
  refine WL_det rfl (det_assign) ?_
  dsimp only [put, List.take, List.drop, List.set, ev, nth, List.nil_append, List.cons_append, md, Nat.reducePow, Nat.reduceAdd, Nat.reduceMul]
  refine WL_nil ?_
  refine WC_cond_false rfl ?_
  refine WC_seq ?_
  refine WC_region ?_
  refine WL_det rfl (Det.bv true (det_eqlz rfl rfl) (by simpa using hop)) ?_
  dsimp only [put, List.take, List.drop, List.set, ev, nth, List.nil_append, List.cons_append, md, Nat.reducePow, Nat.reduceAdd, Nat.reduceMul]
  refine WL_det rfl (det_assign) ?_
  dsimp only [put, List.take, List.drop, List.set, ev, nth, List.nil_append, List.cons_append, md, Nat.reducePow, Nat.reduceAdd, Nat.reduceMul]
  refine WL_nil ?_
  refine WC_cond_true rfl ?_
  refine WC_seq ?_
  refine WC_region ?_
  refine WL_det rfl (det_move) ?_
  dsimp only [put, List.take, List.drop, List.set, ev, nth, List.nil_append, List.cons_append, md, Nat.reducePow, Nat.reduceAdd, Nat.reduceMul]
  refine WL_det rfl (det_move) ?_
  dsimp only [put, List.take, List.drop, List.set, ev, nth, List.nil_append, List.cons_append, md, Nat.reducePow, Nat.reduceAdd, Nat.reduceMul]
  refine WL_det rfl (det_idxS0 Try.underlying37 Try.sizeOf39 rfl rfl (rfl) (by omega)) ?_
  dsimp only [put, List.take, List.drop, List.set, ev, nth, List.nil_append, List.cons_append, md, Nat.reducePow, Nat.reduceAdd, Nat.reduceMul]
  refine WL_det rfl (det_load 0 Try.isAgg39 rfl rfl (hrl _ (by omega))) ?_
  dsimp only [put, List.take, List.drop, List.set, ev, nth, List.nil_append, List.cons_append, md, Nat.reducePow, Nat.reduceAdd, Nat.reduceMul]
  refine WL_chg rfl (Chg_callT [_, _, _] _ _ rfl Try.call45 rfl (fun w mm hw => takeB hM ha w mm hw)) ?_
  rintro _ _ ⟨M1, ⟨rfl, hM1⟩, rfl⟩
  dsimp only [put, setM, List.zip, List.zipWith, List.take, List.drop, List.append_nil, List.set, ev, nth, List.nil_append, List.cons_append, md, Nat.reducePow, Nat.reduceAdd, Nat.reduceMul]
  refine WL_det rfl (det_move) ?_
  dsimp only [put, List.take, List.drop, List.set, ev, nth, List.nil_append, List.cons_append, md, Nat.reducePow, Nat.reduceAdd, Nat.reduceMul]
  refine WL_det rfl (det_extract rfl rfl) ?_
  dsimp only [put, List.take, List.drop, List.set, ev, nth, List.nil_append, List.cons_append, md, Nat.reducePow, Nat.reduceAdd, Nat.reduceMul]
  refine WL_det rfl (det_extract rfl rfl) ?_
  dsimp only [put, List.take, List.drop, List.set, ev, nth, List.nil_append, List.cons_append, md, Nat.reducePow, Nat.reduceAdd, Nat.reduceMul]
  refine WL_det rfl (det_assign) ?_
  dsimp only [put, List.take, List.drop, List.set, ev, nth, List.nil_append, List.cons_append, md, Nat.reducePow, Nat.reduceAdd, Nat.reduceMul]
  refine WL_det rfl (det_assign) ?_
  dsimp only [put, List.take, List.drop, List.set, ev, nth, List.nil_append, List.cons_append, md, Nat.reducePow, Nat.reduceAdd, Nat.reduceMul]
  refine WL_nil ?_
  refine WC_seq ?_
  refine WC_region ?_
  refine WL_det rfl (det_move) ?_
  dsimp only [put, List.take, List.drop, List.set, ev, nth, List.nil_append, List.cons_append, md, Nat.reducePow, Nat.reduceAdd, Nat.reduceMul]
  refine WL_det rfl (det_move) ?_
  dsimp only [put, List.take, List.drop, List.set, ev, nth, List.nil_append, List.cons_append, md, Nat.reducePow, Nat.reduceAdd, Nat.reduceMul]
  refine WL_det rfl (det_idxS0 Try.underlying38 Try.sizeOf42 rfl rfl (rfl) (by omega)) ?_
  dsimp only [put, List.take, List.drop, List.set, ev, nth, List.nil_append, List.cons_append, md, Nat.reducePow, Nat.reduceAdd, Nat.reduceMul]
  refine WL_det rfl (det_load 1 Try.isAgg42 rfl rfl (hrw _ (by omega))) ?_
  dsimp only [put, List.take, List.drop, List.set, ev, nth, List.nil_append, List.cons_append, md, Nat.reducePow, Nat.reduceAdd, Nat.reduceMul]
  refine WL_chg rfl (Chg_callT [_, _, _] _ _ rfl Try.call46 rfl (fun w mm hw => rtakeB hM1 ha w mm hw)) ?_
  rintro _ _ ⟨M2, ⟨rfl, lv1, hM2⟩, rfl⟩
  dsimp only [put, setM, List.zip, List.zipWith, List.take, List.drop, List.append_nil, List.set, ev, nth, List.nil_append, List.cons_append, md, Nat.reducePow, Nat.reduceAdd, Nat.reduceMul]
  refine WL_det rfl (det_move) ?_
  dsimp only [put, List.take, List.drop, List.set, ev, nth, List.nil_append, List.cons_append, md, Nat.reducePow, Nat.reduceAdd, Nat.reduceMul]
  refine WL_det rfl (det_extract rfl rfl) ?_
  dsimp only [put, List.take, List.drop, List.set, ev, nth, List.nil_append, List.cons_append, md, Nat.reducePow, Nat.reduceAdd, Nat.reduceMul]
  refine WL_det rfl (det_extract rfl rfl) ?_
  dsimp only [put, List.take, List.drop, List.set, ev, nth, List.nil_append, List.cons_append, md, Nat.reducePow, Nat.reduceAdd, Nat.reduceMul]
  refine WL_det rfl (det_assign) ?_
  dsimp only [put, List.take, List.drop, List.set, ev, nth, List.nil_append, List.cons_append, md, Nat.reducePow, Nat.reduceAdd, Nat.reduceMul]
  refine WL_det rfl (det_assign) ?_
  dsimp only [put, List.take, List.drop, List.set, ev, nth, List.nil_append, List.cons_append, md, Nat.reducePow, Nat.reduceAdd, Nat.reduceMul]
  refine WL_nil ?_
  refine WC_seq ?_
  refine WC_region ?_
  refine WL_det rfl (det_move) ?_
  dsimp only [put, List.take, List.drop, List.set, ev, nth, List.nil_append, List.cons_append, md, Nat.reducePow, Nat.reduceAdd, Nat.reduceMul]
  refine WL_det rfl (det_move) ?_
  dsimp only [put, List.take, List.drop, List.set, ev, nth, List.nil_append, List.cons_append, md, Nat.reducePow, Nat.reduceAdd, Nat.reduceMul]
  refine WL_det rfl (Det.bv true (det_eqlz rfl rfl) (by simp)) ?_
  dsimp only [put, List.take, List.drop, List.set, ev, nth, List.nil_append, List.cons_append, md, Nat.reducePow, Nat.reduceAdd, Nat.reduceMul]
  refine WL_det rfl (det_move) ?_
  dsimp only [put, List.take, List.drop, List.set, ev, nth, List.nil_append, List.cons_append, md, Nat.reducePow, Nat.reduceAdd, Nat.reduceMul]
  refine WL_detG rfl (det_move) ?_
  dsimp only [put, List.take, List.drop, List.set, ev, nth, List.nil_append, List.cons_append, md, Nat.reducePow, Nat.reduceAdd, Nat.reduceMul]
  refine WL_detG rfl (det_move) ?_
  dsimp only [put, List.take, List.drop, List.set, ev, nth, List.nil_append, List.cons_append, md, Nat.reducePow, Nat.reduceAdd, Nat.reduceMul]
  refine WL_detG rfl (Det.bv true (det_eqlB rfl rfl Try.underlying4) (by simp)) ?_
  dsimp only [put, List.take, List.drop, List.set, ev, nth, List.nil_append, List.cons_append, md, Nat.reducePow, Nat.reduceAdd, Nat.reduceMul]
  refine WL_det rfl (det_pick_true rfl) ?_
  dsimp only [put, List.take, List.drop, List.set, ev, nth, List.nil_append, List.cons_append, md, Nat.reducePow, Nat.reduceAdd, Nat.reduceMul]
  refine WL_det rfl (det_assign) ?_
  dsimp only [put, List.take, List.drop, List.set, ev, nth, List.nil_append, List.cons_append, md, Nat.reducePow, Nat.reduceAdd, Nat.reduceMul]
  refine WL_nil ?_
  refine WC_ret ?_
  refine inB_ret ?_
  refine fin_tmp Try.results20 rfl (_) (.cons_cons _ (.cons_cons _ (.cons _ (List.Sublist.refl _)))) ?_
  exact ⟨_, ⟨rfl, _, lv1, up_len hX a (by rw [List.length_tail]; omega), hM2⟩, rfl⟩

set_option maxRecDepth 100000 in
set_option maxHeartbeats 2000000 in
theorem one_same (K : Bx) (X : Nat → List Int) (lv : Nat → Value) (M : Mem) (hM : BMl 3 K X X lv M) (hX : ∀ a, a < 3 → (X a).length ≤ K.R a) (hR : ∀ a, a < 3 → K.R a ≤ 9) (rb rb2 cL cW : Nat) (cl cw : Array Value) (hrl : ∀ a, a < 3 → cl[a]? = some (pS K a)) (hrw : ∀ a, a < 3 → cw[a]? = some (pW K a)) (op d1 d2 d3 : Int) (a b : Nat) (hpa : pl d1 = a) (hpb : pl d2 = b) (hop : op = 3) (hab : a = b) {w0 : World} {m0 : Mem} {w : World} (hw0 : Has w0 ((some rb, .cells cl 39 (0, 0)) :: (some rb2, .cells cw 42 (0, 0)) :: (M ++ m0)) w) :
    Calls Try.prog 20 [.slice (some ⟨rb, 0, none⟩) 3 cL, .slice (some ⟨rb2, 0, none⟩) 3 cW, .agg #[.int .i64 op, .int .i64 d1, .int .i64 d2, .int .i64 d3]].toArray w (Post w0 fun v m => ∃ M1, (v = .bool true ∧ ∃ X' lv', (∀ a, a < 3 → (X' a).length ≤ K.R a) ∧ BMl 3 K X' X' lv' M1) ∧ m = (some rb, .cells cl 39 (0, 0)) :: (some rb2, .cells cw 42 (0, 0)) :: (M1 ++ m0)) := by
  have ha : a < 3 := hpa ▸ pl_lt d1
  have hb : b < 3 := hpb ▸ pl_lt d2
  have hRa := hR a ha
  have hRb := hR b hb
  have hXa := hX a ha
  have hXb := hX b hb
  refine calls_of_WCm Try.func20 rfl ?_ hw0
  simp only [Try.ntmps20, List.length_cons, List.length_nil, Nat.reduceAdd, Nat.reduceSub, List.replicate, List.cons_append, List.nil_append]
  refine WC_seq ?_
  refine WC_region ?_
  refine WL_relAt 2 rfl (rel_box rfl rfl) ?_
  rintro _ _ ⟨b2, rfl, rfl⟩
  dsimp only [put, List.take, List.drop, List.set, ev, nth, List.nil_append, List.cons_append, md, Nat.reducePow, Nat.reduceAdd, Nat.reduceMul]
  refine WL_det rfl (det_assign) ?_
  dsimp only [put, List.take, List.drop, List.set, ev, nth, List.nil_append, List.cons_append, md, Nat.reducePow, Nat.reduceAdd, Nat.reduceMul]
  refine WL_nil ?_
  refine WC_seq ?_
  refine WC_draw [[], [0], [0, 1], [], [3], [0, 1, 2, 3, 4], [0, 1, 2, 3, 4, 5], [0, 1, 2, 3, 4, 5, 6]] [] 210 [] (List.nil_sublist _) mixed rfl (by decide) ?_
  refine RW.pure rfl rfl (fun _ => rfl) (fun V hV => det_fieldAddr 1 Try.underlying47 rfl Try.sizeOf3 rfl) (fun _ _ _ => rfl) ?_
  dsimp only [put, List.set, ev, nth, List.nil_append, List.cons_append, md, Nat.reducePow, Nat.reduceAdd, Nat.reduceMul]
  refine RW.det [] rfl rfl rfl rfl (fun _ => rfl) (fun V hV => Det.rel (det_load 2 Try.isAgg3 rfl rfl rfl)) (fun _ _ _ => rfl) ?_
  dsimp only [put, List.set, ev, nth, List.nil_append, List.cons_append, md, Nat.reducePow, Nat.reduceAdd, Nat.reduceMul]
  refine RW.det [] rfl rfl rfl rfl (fun _ => rfl) (fun V hV => Rel_call rfl Try.call43 (fun w hw => place_k d1 a hpa w)) (fun _ _ _ => rfl) ?_
  dsimp only [put, List.set, ev, nth, List.nil_append, List.cons_append, md, Nat.reducePow, Nat.reduceAdd, Nat.reduceMul]
  refine RW.pure rfl rfl (fun _ => rfl) (fun V hV => det_fieldAddr 2 Try.underlying47 rfl Try.sizeOf3 rfl) (fun _ _ _ => rfl) ?_
  dsimp only [put, List.set, ev, nth, List.nil_append, List.cons_append, md, Nat.reducePow, Nat.reduceAdd, Nat.reduceMul]
  refine RW.det [] rfl rfl rfl rfl (fun _ => rfl) (fun V hV => Det.rel (det_load 2 Try.isAgg3 rfl rfl rfl)) (fun _ _ _ => rfl) ?_
  dsimp only [put, List.set, ev, nth, List.nil_append, List.cons_append, md, Nat.reducePow, Nat.reduceAdd, Nat.reduceMul]
  refine RW.det [] rfl rfl rfl rfl (fun _ => rfl) (fun V hV => Rel_call rfl Try.call43 (fun w hw => place_k d2 b hpb w)) (fun _ _ _ => rfl) ?_
  dsimp only [put, List.set, ev, nth, List.nil_append, List.cons_append, md, Nat.reducePow, Nat.reduceAdd, Nat.reduceMul]
  refine RW.pure rfl rfl (fun _ => rfl) (fun V hV => det_assign) (fun _ _ _ => rfl) ?_
  dsimp only [put, List.set, ev, nth, List.nil_append, List.cons_append, md, Nat.reducePow, Nat.reduceAdd, Nat.reduceMul]
  refine RW.pure rfl rfl (fun _ => rfl) (fun V hV => det_assign) (fun _ _ _ => rfl) ?_
  dsimp only [put, List.set, ev, nth, List.nil_append, List.cons_append, md, Nat.reducePow, Nat.reduceAdd, Nat.reduceMul]
  refine RW.done (fun V => _ ++ flat [] V) rfl rfl (fun _ => rfl) (fun V hV => ?_)
  try simp only [flat_nil, List.append_nil]
  try dsimp only [put, blk, flat_nil, List.append_nil, List.append, List.eraseIdx, List.set, ev, nth, List.nil_append, List.cons_append, md, Nat.reducePow, Nat.reduceAdd, Nat.reduceMul]
  refine WC_seq ?_
  refine WC_seq ?_
  refine WC_region ?_
  refine WL_det rfl (det_fieldAddr 0 Try.underlying47 rfl Try.sizeOf3 rfl) ?_
  dsimp only [put, List.take, List.drop, List.set, ev, nth, List.nil_append, List.cons_append, md, Nat.reducePow, Nat.reduceAdd, Nat.reduceMul]
  refine WL_det rfl (det_load 2 Try.isAgg3 rfl rfl rfl) ?_
  dsimp only [put, List.take, List.drop, List.set, ev, nth, List.nil_append, List.cons_append, md, Nat.reducePow, Nat.reduceAdd, Nat.reduceMul]
  refine WL_nil ?_
  refine WC_block ?_
  refine WC_seq ?_
  refine WC_region ?_
  refine WL_det rfl (Det.bv false (det_eqlz rfl rfl) (by simp; omega)) ?_
  dsimp only [put, List.take, List.drop, List.set, ev, nth, List.nil_append, List.cons_append, md, Nat.reducePow, Nat.reduceAdd, Nat.reduceMul]
  refine WL_det rfl (det_assign) ?_
  dsimp only [put, List.take, List.drop, List.set, ev, nth, List.nil_append, List.cons_append, md, Nat.reducePow, Nat.reduceAdd, Nat.reduceMul]
  refine WL_nil ?_
  refine WC_cond_false rfl ?_
  refine WC_seq ?_
  refine WC_region ?_
  refine WL_det rfl (Det.bv false (det_eqlz rfl rfl) (by simp; omega)) ?_
  dsimp only [put, List.take, List.drop, List.set, ev, nth, List.nil_append, List.cons_append, md, Nat.reducePow, Nat.reduceAdd, Nat.reduceMul]
  refine WL_det rfl (det_assign) ?_
  dsimp only [put, List.take, List.drop, List.set, ev, nth, List.nil_append, List.cons_append, md, Nat.reducePow, Nat.reduceAdd, Nat.reduceMul]
  refine WL_nil ?_
  refine WC_cond_false rfl ?_
  refine WC_seq ?_
  refine WC_region ?_
  refine WL_det rfl (Det.bv true (det_eqlz rfl rfl) (by simpa using hop)) ?_
  dsimp only [put, List.take, List.drop, List.set, ev, nth, List.nil_append, List.cons_append, md, Nat.reducePow, Nat.reduceAdd, Nat.reduceMul]
  refine WL_det rfl (det_assign) ?_
  dsimp only [put, List.take, List.drop, List.set, ev, nth, List.nil_append, List.cons_append, md, Nat.reducePow, Nat.reduceAdd, Nat.reduceMul]
  refine WL_nil ?_
  refine WC_cond_true rfl ?_
  refine WC_seq ?_
  refine WC_region ?_
  refine WL_det rfl (det_assign) ?_
  dsimp only [put, List.take, List.drop, List.set, ev, nth, List.nil_append, List.cons_append, md, Nat.reducePow, Nat.reduceAdd, Nat.reduceMul]
  refine WL_nil ?_
  refine WC_seq ?_
  refine WC_block ?_
  refine WC_loopS (ι := Nat) [77, 78, 79, 80, 81, 82, 83, 84, 85, 86, 87, 88, 89, 90, 91, 92, 93, 94, 95, 96, 97, 99, 100, 101, 102, 103, 98, 104, 105, 14, 15, 106, 107, 108, 109, 110, 111, 112, 113, 114, 115] (fun x => [(13, vn .i64 (0))]) (fun x => []) (fun x => True) (fun x => 0) 0 ?_ ?_ ?_ ?_
  · rfl
  · rfl
  · trivial
  · intro x g hI
    dsimp only [setAll, setG, setM, List.set]
    refine WC_seq ?_
    refine WC_seq ?_
    refine WC_draw [[], [], [0, 1], [0, 1, 2], [0, 1, 2, 3], [0, 1, 2, 3], [0, 1, 2, 3, 4, 5], [0, 1, 2, 3, 4, 5, 6], [0, 1, 2, 3, 4, 5, 6, 7], [0, 1, 2, 3, 4, 5, 6, 7, 8], [0, 1, 2, 3, 4, 5, 6, 7, 8, 9], [0, 1, 2, 3, 4, 5, 6, 7, 8, 9, 10], [0, 1, 2, 3], [0, 1, 2, 3], [0, 1, 2, 3, 12, 13], [0, 1, 2, 3, 12, 13, 14], [0, 1, 2, 3, 12, 13, 14, 15], [0, 1, 2, 3, 12, 13, 14, 15, 16], [0, 1, 2, 3, 12, 13, 14, 15, 16, 17], [0, 1, 2, 3, 4, 5, 6, 7, 8, 9, 10, 11, 12, 13, 14, 15, 16, 17, 18], [0, 1, 2, 3, 4, 5, 6, 7, 8, 9, 10, 11, 12, 13, 14, 15, 16, 17, 18, 19]] [] 210 [] (List.nil_sublist _) mixed rfl (by decide) ?_
    refine RW.pure rfl rfl (fun _ => rfl) (fun V hV => det_move) (fun _ _ _ => rfl) ?_
    dsimp only [put, List.set, ev, nth, List.nil_append, List.cons_append, md, Nat.reducePow, Nat.reduceAdd, Nat.reduceMul]
    refine RW.pure rfl rfl (fun _ => rfl) (fun V hV => det_move) (fun _ _ _ => rfl) ?_
    dsimp only [put, List.set, ev, nth, List.nil_append, List.cons_append, md, Nat.reducePow, Nat.reduceAdd, Nat.reduceMul]
    refine RW.pure rfl rfl (fun _ => rfl) (fun V hV => Det.bv false (det_neq rfl rfl) (by simpa using hab)) (fun _ _ _ => rfl) ?_
    dsimp only [put, List.set, ev, nth, List.nil_append, List.cons_append, md, Nat.reducePow, Nat.reduceAdd, Nat.reduceMul]
    refine RW.pure rfl rfl (fun _ => rfl) (fun V hV => det_move) (fun _ _ _ => rfl) ?_
    dsimp only [put, List.set, ev, nth, List.nil_append, List.cons_append, md, Nat.reducePow, Nat.reduceAdd, Nat.reduceMul]
    refine RW.skip rfl rfl (fun _ => rfl) ?_
    dsimp only [put, List.set, ev, nth, List.nil_append, List.cons_append, md, Nat.reducePow, Nat.reduceAdd, Nat.reduceMul]
    refine RW.skip rfl rfl (fun _ => rfl) ?_
    dsimp only [put, List.set, ev, nth, List.nil_append, List.cons_append, md, Nat.reducePow, Nat.reduceAdd, Nat.reduceMul]
    refine RW.skip rfl rfl (fun _ => rfl) ?_
    dsimp only [put, List.set, ev, nth, List.nil_append, List.cons_append, md, Nat.reducePow, Nat.reduceAdd, Nat.reduceMul]
    refine RW.skip rfl rfl (fun _ => rfl) ?_
    dsimp only [put, List.set, ev, nth, List.nil_append, List.cons_append, md, Nat.reducePow, Nat.reduceAdd, Nat.reduceMul]
    refine RW.skip rfl rfl (fun _ => rfl) ?_
    dsimp only [put, List.set, ev, nth, List.nil_append, List.cons_append, md, Nat.reducePow, Nat.reduceAdd, Nat.reduceMul]
    refine RW.skip rfl rfl (fun _ => rfl) ?_
    dsimp only [put, List.set, ev, nth, List.nil_append, List.cons_append, md, Nat.reducePow, Nat.reduceAdd, Nat.reduceMul]
    refine RW.skip rfl rfl (fun _ => rfl) ?_
    dsimp only [put, List.set, ev, nth, List.nil_append, List.cons_append, md, Nat.reducePow, Nat.reduceAdd, Nat.reduceMul]
    refine RW.skip rfl rfl (fun _ => rfl) ?_
    dsimp only [put, List.set, ev, nth, List.nil_append, List.cons_append, md, Nat.reducePow, Nat.reduceAdd, Nat.reduceMul]
    refine RW.skip rfl rfl (fun _ => rfl) ?_
    dsimp only [put, List.set, ev, nth, List.nil_append, List.cons_append, md, Nat.reducePow, Nat.reduceAdd, Nat.reduceMul]
    refine RW.skip rfl rfl (fun _ => rfl) ?_
    dsimp only [put, List.set, ev, nth, List.nil_append, List.cons_append, md, Nat.reducePow, Nat.reduceAdd, Nat.reduceMul]
    refine RW.skip rfl rfl (fun _ => rfl) ?_
    dsimp only [put, List.set, ev, nth, List.nil_append, List.cons_append, md, Nat.reducePow, Nat.reduceAdd, Nat.reduceMul]
    refine RW.skip rfl rfl (fun _ => rfl) ?_
    dsimp only [put, List.set, ev, nth, List.nil_append, List.cons_append, md, Nat.reducePow, Nat.reduceAdd, Nat.reduceMul]
    refine RW.skip rfl rfl (fun _ => rfl) ?_
    dsimp only [put, List.set, ev, nth, List.nil_append, List.cons_append, md, Nat.reducePow, Nat.reduceAdd, Nat.reduceMul]
    refine RW.skip rfl rfl (fun _ => rfl) ?_
    dsimp only [put, List.set, ev, nth, List.nil_append, List.cons_append, md, Nat.reducePow, Nat.reduceAdd, Nat.reduceMul]
    refine RW.skip rfl rfl (fun _ => rfl) ?_
    dsimp only [put, List.set, ev, nth, List.nil_append, List.cons_append, md, Nat.reducePow, Nat.reduceAdd, Nat.reduceMul]
    refine RW.skip rfl rfl (fun _ => rfl) ?_
    dsimp only [put, List.set, ev, nth, List.nil_append, List.cons_append, md, Nat.reducePow, Nat.reduceAdd, Nat.reduceMul]
    refine RW.pure rfl rfl (fun _ => rfl) (fun V hV => det_pick_false rfl) (fun _ _ _ => rfl) ?_
    dsimp only [put, List.set, ev, nth, List.nil_append, List.cons_append, md, Nat.reducePow, Nat.reduceAdd, Nat.reduceMul]
    refine RW.done (fun V => _ ++ flat [] V) rfl rfl (fun _ => rfl) (fun V hV => ?_)
    try simp only [flat_nil, List.append_nil]
    try dsimp only [put, blk, flat_nil, List.append_nil, List.append, List.eraseIdx, List.set, ev, nth, List.nil_append, List.cons_append, md, Nat.reducePow, Nat.reduceAdd, Nat.reduceMul]
    refine WC_cond_false rfl ?_
    refine WC_exit ?_
    refine inB_same ?_
    refine WC_seq ?_
    refine WC_draw [[], [], [0, 1], [0, 1, 2], [], [], [4, 5], [4, 5, 6], [0, 1, 2, 3, 4, 5, 6, 7], [], [0, 1, 2, 3, 4, 5, 6, 7, 8, 9], [0, 1, 2, 3, 4, 5, 6, 7, 8, 9, 10]] [8] 210 [] (List.nil_sublist _) mixed rfl (by decide) ?_
    refine RW.pure rfl rfl (fun _ => rfl) (fun V hV => det_move) (fun _ _ _ => rfl) ?_
    dsimp only [put, List.set, ev, nth, List.nil_append, List.cons_append, md, Nat.reducePow, Nat.reduceAdd, Nat.reduceMul]
    refine RW.pure rfl rfl (fun _ => rfl) (fun V hV => det_move) (fun _ _ _ => rfl) ?_
    dsimp only [put, List.set, ev, nth, List.nil_append, List.cons_append, md, Nat.reducePow, Nat.reduceAdd, Nat.reduceMul]
    refine RW.pure rfl rfl (fun _ => rfl) (fun V hV => det_idxS0 Try.underlying37 Try.sizeOf39 rfl rfl (rfl) (by omega)) (fun _ _ _ => rfl) ?_
    dsimp only [put, List.set, ev, nth, List.nil_append, List.cons_append, md, Nat.reducePow, Nat.reduceAdd, Nat.reduceMul]
    refine RW.det [] rfl rfl rfl rfl (fun _ => rfl) (fun V hV => Det.rel (det_load 0 Try.isAgg39 rfl rfl (hrl _ (by omega)))) (fun _ _ _ => rfl) ?_
    dsimp only [put, List.set, ev, nth, List.nil_append, List.cons_append, md, Nat.reducePow, Nat.reduceAdd, Nat.reduceMul]
    refine RW.pure rfl rfl (fun _ => rfl) (fun V hV => det_move) (fun _ _ _ => rfl) ?_
    dsimp only [put, List.set, ev, nth, List.nil_append, List.cons_append, md, Nat.reducePow, Nat.reduceAdd, Nat.reduceMul]
    refine RW.pure rfl rfl (fun _ => rfl) (fun V hV => det_move) (fun _ _ _ => rfl) ?_
    dsimp only [put, List.set, ev, nth, List.nil_append, List.cons_append, md, Nat.reducePow, Nat.reduceAdd, Nat.reduceMul]
    refine RW.pure rfl rfl (fun _ => rfl) (fun V hV => det_idxS0 Try.underlying37 Try.sizeOf39 rfl rfl (rfl) (by omega)) (fun _ _ _ => rfl) ?_
    dsimp only [put, List.set, ev, nth, List.nil_append, List.cons_append, md, Nat.reducePow, Nat.reduceAdd, Nat.reduceMul]
    refine RW.det [] rfl rfl rfl rfl (fun _ => rfl) (fun V hV => Det.rel (det_load 0 Try.isAgg39 rfl rfl (hrl _ (by omega)))) (fun _ _ _ => rfl) ?_
    dsimp only [put, List.set, ev, nth, List.nil_append, List.cons_append, md, Nat.reducePow, Nat.reduceAdd, Nat.reduceMul]
    refine RW.tail' (R0 := fun _ v m' => ∃ m1, (v = vn .i64 0 ∧ BMl 3 K X X lv m1) ∧ m' = (some rb, .cells cl 39 (0, 0)) :: (some rb2, .cells cw 42 (0, 0)) :: (some b2, .cells #[.int .i64 op, .int .i64 d1, .int .i64 d2, .int .i64 d3] 47 (0, 0)) :: (m1 ++ m0)) (B := fun V => _ ++ flat [] V) rfl rfl rfl rfl (fun _ => rfl) (fun V hV => by
          simp only [flat_nil, List.append_nil]
          exact Chg_callT [_, _, _] _ _ rfl Try.call47 rfl (fun w mm hw => (by subst hab; exact move_same 3 K X X lv M hM a ha hw))) (fun _ _ _ _ _ h => h) (fun V hV v m' h => by obtain ⟨_, _, rfl⟩ := h; exact (List.nil_sublist _)) ?_
    dsimp only [put, List.set, ev, nth, List.nil_append, List.cons_append, md, Nat.reducePow, Nat.reduceAdd, Nat.reduceMul]
    refine RW.pure rfl rfl (fun _ => rfl) (fun V hV => det_move) (fun _ _ _ => rfl) ?_
    dsimp only [put, List.set, ev, nth, List.nil_append, List.cons_append, md, Nat.reducePow, Nat.reduceAdd, Nat.reduceMul]
    refine RW.pure (e := fun _ => .bool true) rfl rfl (fun _ => rfl) (fun V hV => Det.bv true (det_eql (by obtain ⟨_, ⟨h, _⟩, _⟩ := hV 8 (by decide) _ rfl; exact h) rfl) (by simp)) (fun V V' hV => by first | rfl | (dsimp only [ev, nth]; simp only [hV 8 (by decide)])) ?_
    dsimp only [put, List.set, ev, nth, List.nil_append, List.cons_append, md, Nat.reducePow, Nat.reduceAdd, Nat.reduceMul]
    refine RW.pure rfl rfl (fun _ => rfl) (fun V hV => det_assign) (fun _ _ _ => rfl) ?_
    dsimp only [put, List.set, ev, nth, List.nil_append, List.cons_append, md, Nat.reducePow, Nat.reduceAdd, Nat.reduceMul]
    refine RW.done (fun V => (V 8).2) rfl rfl (fun _ => rfl) (fun V hV => ?_)
    obtain ⟨MT8, ⟨hv8, hM8⟩, ht8⟩ := hV 8 _ rfl
    simp only [hv8, ht8, List.append_nil, flat_nil]
    try simp only [flat_nil, List.append_nil]
    try dsimp only [put, blk, flat_nil, List.append_nil, List.append, List.eraseIdx, List.set, ev, nth, List.nil_append, List.cons_append, md, Nat.reducePow, Nat.reduceAdd, Nat.reduceMul]
    clear hV ht8
    refine WC_ret ?_
    refine inB_ret ?_
    refine fin_tmp Try.results20 rfl (_) (.cons_cons _ (.cons_cons _ (.cons _ (List.Sublist.refl _)))) ?_
    exact ⟨_, ⟨rfl, _, lv, hX, hM8⟩, rfl⟩

set_option maxRecDepth 100000 in
set_option maxHeartbeats 2000000 in
theorem one_move (K : Bx) (X : Nat → List Int) (lv : Nat → Value) (M : Mem) (hM : BMl 3 K X X lv M) (hX : ∀ a, a < 3 → (X a).length ≤ K.R a) (hR : ∀ a, a < 3 → K.R a ≤ 9) (rb rb2 cL cW : Nat) (cl cw : Array Value) (hrl : ∀ a, a < 3 → cl[a]? = some (pS K a)) (hrw : ∀ a, a < 3 → cw[a]? = some (pW K a)) (op d1 d2 d3 : Int) (a b : Nat) (hpa : pl d1 = a) (hpb : pl d2 = b) (hop : op = 3) (hab : ¬ a = b) {w0 : World} {m0 : Mem} {w : World} (hw0 : Has w0 ((some rb, .cells cl 39 (0, 0)) :: (some rb2, .cells cw 42 (0, 0)) :: (M ++ m0)) w) :
    Calls Try.prog 20 [.slice (some ⟨rb, 0, none⟩) 3 cL, .slice (some ⟨rb2, 0, none⟩) 3 cW, .agg #[.int .i64 op, .int .i64 d1, .int .i64 d2, .int .i64 d3]].toArray w (Post w0 fun v m => ∃ M1, (v = .bool true ∧ ∃ X' lv', (∀ a, a < 3 → (X' a).length ≤ K.R a) ∧ BMl 3 K X' X' lv' M1) ∧ m = (some rb, .cells cl 39 (0, 0)) :: (some rb2, .cells cw 42 (0, 0)) :: (M1 ++ m0)) := by
  have ha : a < 3 := hpa ▸ pl_lt d1
  have hb : b < 3 := hpb ▸ pl_lt d2
  have hRa := hR a ha
  have hRb := hR b hb
  have hXa := hX a ha
  have hXb := hX b hb
  refine calls_of_WCm Try.func20 rfl ?_ hw0
  simp only [Try.ntmps20, List.length_cons, List.length_nil, Nat.reduceAdd, Nat.reduceSub, List.replicate, List.cons_append, List.nil_append]
  refine WC_seq ?_
  refine WC_region ?_
  refine WL_relAt 2 rfl (rel_box rfl rfl) ?_
  rintro _ _ ⟨b2, rfl, rfl⟩
  dsimp only [put, List.take, List.drop, List.set, ev, nth, List.nil_append, List.cons_append, md, Nat.reducePow, Nat.reduceAdd, Nat.reduceMul]
  refine WL_det rfl (det_assign) ?_
  dsimp only [put, List.take, List.drop, List.set, ev, nth, List.nil_append, List.cons_append, md, Nat.reducePow, Nat.reduceAdd, Nat.reduceMul]
  refine WL_nil ?_
  refine WC_seq ?_
  refine WC_draw [[], [0], [0, 1], [], [3], [0, 1, 2, 3, 4], [0, 1, 2, 3, 4, 5], [0, 1, 2, 3, 4, 5, 6]] [] 210 [] (List.nil_sublist _) mixed rfl (by decide) ?_
  refine RW.pure rfl rfl (fun _ => rfl) (fun V hV => det_fieldAddr 1 Try.underlying47 rfl Try.sizeOf3 rfl) (fun _ _ _ => rfl) ?_
  dsimp only [put, List.set, ev, nth, List.nil_append, List.cons_append, md, Nat.reducePow, Nat.reduceAdd, Nat.reduceMul]
  refine RW.det [] rfl rfl rfl rfl (fun _ => rfl) (fun V hV => Det.rel (det_load 2 Try.isAgg3 rfl rfl rfl)) (fun _ _ _ => rfl) ?_
  dsimp only [put, List.set, ev, nth, List.nil_append, List.cons_append, md, Nat.reducePow, Nat.reduceAdd, Nat.reduceMul]
  refine RW.det [] rfl rfl rfl rfl (fun _ => rfl) (fun V hV => Rel_call rfl Try.call43 (fun w hw => place_k d1 a hpa w)) (fun _ _ _ => rfl) ?_
  dsimp only [put, List.set, ev, nth, List.nil_append, List.cons_append, md, Nat.reducePow, Nat.reduceAdd, Nat.reduceMul]
  refine RW.pure rfl rfl (fun _ => rfl) (fun V hV => det_fieldAddr 2 Try.underlying47 rfl Try.sizeOf3 rfl) (fun _ _ _ => rfl) ?_
  dsimp only [put, List.set, ev, nth, List.nil_append, List.cons_append, md, Nat.reducePow, Nat.reduceAdd, Nat.reduceMul]
  refine RW.det [] rfl rfl rfl rfl (fun _ => rfl) (fun V hV => Det.rel (det_load 2 Try.isAgg3 rfl rfl rfl)) (fun _ _ _ => rfl) ?_
  dsimp only [put, List.set, ev, nth, List.nil_append, List.cons_append, md, Nat.reducePow, Nat.reduceAdd, Nat.reduceMul]
  refine RW.det [] rfl rfl rfl rfl (fun _ => rfl) (fun V hV => Rel_call rfl Try.call43 (fun w hw => place_k d2 b hpb w)) (fun _ _ _ => rfl) ?_
  dsimp only [put, List.set, ev, nth, List.nil_append, List.cons_append, md, Nat.reducePow, Nat.reduceAdd, Nat.reduceMul]
  refine RW.pure rfl rfl (fun _ => rfl) (fun V hV => det_assign) (fun _ _ _ => rfl) ?_
  dsimp only [put, List.set, ev, nth, List.nil_append, List.cons_append, md, Nat.reducePow, Nat.reduceAdd, Nat.reduceMul]
  refine RW.pure rfl rfl (fun _ => rfl) (fun V hV => det_assign) (fun _ _ _ => rfl) ?_
  dsimp only [put, List.set, ev, nth, List.nil_append, List.cons_append, md, Nat.reducePow, Nat.reduceAdd, Nat.reduceMul]
  refine RW.done (fun V => _ ++ flat [] V) rfl rfl (fun _ => rfl) (fun V hV => ?_)
  try simp only [flat_nil, List.append_nil]
  try dsimp only [put, blk, flat_nil, List.append_nil, List.append, List.eraseIdx, List.set, ev, nth, List.nil_append, List.cons_append, md, Nat.reducePow, Nat.reduceAdd, Nat.reduceMul]
  refine WC_seq ?_
  refine WC_seq ?_
  refine WC_region ?_
  refine WL_det rfl (det_fieldAddr 0 Try.underlying47 rfl Try.sizeOf3 rfl) ?_
  dsimp only [put, List.take, List.drop, List.set, ev, nth, List.nil_append, List.cons_append, md, Nat.reducePow, Nat.reduceAdd, Nat.reduceMul]
  refine WL_det rfl (det_load 2 Try.isAgg3 rfl rfl rfl) ?_
  dsimp only [put, List.take, List.drop, List.set, ev, nth, List.nil_append, List.cons_append, md, Nat.reducePow, Nat.reduceAdd, Nat.reduceMul]
  refine WL_nil ?_
  refine WC_block ?_
  refine WC_seq ?_
  refine WC_region ?_
  refine WL_det rfl (Det.bv false (det_eqlz rfl rfl) (by simp; omega)) ?_
  dsimp only [put, List.take, List.drop, List.set, ev, nth, List.nil_append, List.cons_append, md, Nat.reducePow, Nat.reduceAdd, Nat.reduceMul]
  refine WL_det rfl (det_assign) ?_
  dsimp only [put, List.take, List.drop, List.set, ev, nth, List.nil_append, List.cons_append, md, Nat.reducePow, Nat.reduceAdd, Nat.reduceMul]
  refine WL_nil ?_
  refine WC_cond_false rfl ?_
  refine WC_seq ?_
  refine WC_region ?_
  refine WL_det rfl (Det.bv false (det_eqlz rfl rfl) (by simp; omega)) ?_
  dsimp only [put, List.take, List.drop, List.set, ev, nth, List.nil_append, List.cons_append, md, Nat.reducePow, Nat.reduceAdd, Nat.reduceMul]
  refine WL_det rfl (det_assign) ?_
  dsimp only [put, List.take, List.drop, List.set, ev, nth, List.nil_append, List.cons_append, md, Nat.reducePow, Nat.reduceAdd, Nat.reduceMul]
  refine WL_nil ?_
  refine WC_cond_false rfl ?_
  refine WC_seq ?_
  refine WC_region ?_
  refine WL_det rfl (Det.bv true (det_eqlz rfl rfl) (by simpa using hop)) ?_
  dsimp only [put, List.take, List.drop, List.set, ev, nth, List.nil_append, List.cons_append, md, Nat.reducePow, Nat.reduceAdd, Nat.reduceMul]
  refine WL_det rfl (det_assign) ?_
  dsimp only [put, List.take, List.drop, List.set, ev, nth, List.nil_append, List.cons_append, md, Nat.reducePow, Nat.reduceAdd, Nat.reduceMul]
  refine WL_nil ?_
  refine WC_cond_true rfl ?_
  refine WC_seq ?_
  refine WC_region ?_
  refine WL_det rfl (det_assign) ?_
  dsimp only [put, List.take, List.drop, List.set, ev, nth, List.nil_append, List.cons_append, md, Nat.reducePow, Nat.reduceAdd, Nat.reduceMul]
  refine WL_nil ?_
  refine WC_seq ?_
  refine WC_block ?_
  refine WC_loopF (ι := Nat × Mem) [77, 78, 79, 80, 81, 82, 83, 84, 85, 86, 87, 88, 89, 90, 91, 92, 93, 94, 95, 96, 97, 99, 100, 101, 102, 103, 98, 104, 105, 14, 15, 106, 107, 108, 109, 110, 111, 112, 113, 114, 115] (fun x => [(13, vn .i64 (x.1))]) (fun x => (some rb, .cells cl 39 (0, 0)) :: (some rb2, .cells cw 42 (0, 0)) :: (some b2, .cells #[.int .i64 op, .int .i64 d1, .int .i64 d2, .int .i64 d3] 47 (0, 0)) :: (x.2 ++ m0)) (fun x => x.1 ≤ min (X a).length (K.R b - (X b).length) ∧ ∃ lv, BMl 3 K X (mv X a b x.1) lv x.2) (fun x => (X a).length + 1 - x.1) (0, M) ?_ ?_ ?_ ?_
  · rfl
  · rfl
  · exact ⟨Nat.zero_le _, lv, by rw [mv_zero X hab]; exact hM⟩
  · rintro ⟨k, M⟩ g' ⟨hk, lv, hM⟩
    dsimp only [setAll, setG, setM, List.set]
    dsimp only at hk hM
    refine WC_seq ?_
    refine WC_seq ?_
    refine WC_draw [[], [], [0, 1], [0, 1, 2], [0, 1, 2, 3], [0, 1, 2, 3], [0, 1, 2, 3, 4, 5], [0, 1, 2, 3, 4, 5, 6], [0, 1, 2, 3, 4, 5, 6, 7], [0, 1, 2, 3, 4, 5, 6, 7, 8], [0, 1, 2, 3, 4, 5, 6, 7, 8, 9], [0, 1, 2, 3, 4, 5, 6, 7, 8, 9, 10], [0, 1, 2, 3], [0, 1, 2, 3], [0, 1, 2, 3, 12, 13], [0, 1, 2, 3, 12, 13, 14], [0, 1, 2, 3, 12, 13, 14, 15], [0, 1, 2, 3, 12, 13, 14, 15, 16], [0, 1, 2, 3, 12, 13, 14, 15, 16, 17], [0, 1, 2, 3, 4, 5, 6, 7, 8, 9, 10, 11, 12, 13, 14, 15, 16, 17, 18], [0, 1, 2, 3, 4, 5, 6, 7, 8, 9, 10, 11, 12, 13, 14, 15, 16, 17, 18, 19]] [] 210 [] (List.nil_sublist _) mixed rfl (by decide) ?_
    refine RW.pure rfl rfl (fun _ => rfl) (fun V hV => det_move) (fun _ _ _ => rfl) ?_
    dsimp only [put, List.set, ev, nth, List.nil_append, List.cons_append, md, Nat.reducePow, Nat.reduceAdd, Nat.reduceMul]
    refine RW.pure rfl rfl (fun _ => rfl) (fun V hV => det_move) (fun _ _ _ => rfl) ?_
    dsimp only [put, List.set, ev, nth, List.nil_append, List.cons_append, md, Nat.reducePow, Nat.reduceAdd, Nat.reduceMul]
    refine RW.pure rfl rfl (fun _ => rfl) (fun V hV => Det.bv true (det_neq rfl rfl) (by simpa using hab)) (fun _ _ _ => rfl) ?_
    dsimp only [put, List.set, ev, nth, List.nil_append, List.cons_append, md, Nat.reducePow, Nat.reduceAdd, Nat.reduceMul]
    refine RW.pure rfl rfl (fun _ => rfl) (fun V hV => det_move) (fun _ _ _ => rfl) ?_
    dsimp only [put, List.set, ev, nth, List.nil_append, List.cons_append, md, Nat.reducePow, Nat.reduceAdd, Nat.reduceMul]
    refine RW.pure rfl rfl (fun _ => rfl) (fun V hV => det_move) (fun _ _ _ => rfl) ?_
    dsimp only [put, List.set, ev, nth, List.nil_append, List.cons_append, md, Nat.reducePow, Nat.reduceAdd, Nat.reduceMul]
    refine RW.pure rfl rfl (fun _ => rfl) (fun V hV => det_move) (fun _ _ _ => rfl) ?_
    dsimp only [put, List.set, ev, nth, List.nil_append, List.cons_append, md, Nat.reducePow, Nat.reduceAdd, Nat.reduceMul]
    refine RW.pure rfl rfl (fun _ => rfl) (fun V hV => det_idxS0 Try.underlying38 Try.sizeOf42 rfl rfl (rfl) (by omega)) (fun _ _ _ => rfl) ?_
    dsimp only [put, List.set, ev, nth, List.nil_append, List.cons_append, md, Nat.reducePow, Nat.reduceAdd, Nat.reduceMul]
    refine RW.det [] rfl rfl rfl rfl (fun _ => rfl) (fun V hV => Det.rel (det_load 1 Try.isAgg42 rfl rfl (hrw _ (by omega)))) (fun _ _ _ => rfl) ?_
    dsimp only [put, List.set, ev, nth, List.nil_append, List.cons_append, md, Nat.reducePow, Nat.reduceAdd, Nat.reduceMul]
    refine RW.pure rfl rfl (fun _ => rfl) (fun V hV => det_nilCheck rfl) (fun _ _ _ => rfl) ?_
    dsimp only [put, List.set, ev, nth, List.nil_append, List.cons_append, md, Nat.reducePow, Nat.reduceAdd, Nat.reduceMul]
    refine RW.pure rfl rfl (fun _ => rfl) (fun V hV => det_fieldAddr 0 Try.underlying45 rfl Try.sizeOf43 rfl) (fun _ _ _ => rfl) ?_
    dsimp only [put, List.set, ev, nth, List.nil_append, List.cons_append, md, Nat.reducePow, Nat.reduceAdd, Nat.reduceMul]
    refine RW.det [] rfl rfl rfl rfl (fun _ => rfl) (fun V hV => Det.rel (det_loadAt Try.isAgg43 rfl fun w hw => hM.cell0 hb (Has.dropN (hflat0 hw) 3))) (fun _ _ _ => rfl) ?_
    dsimp only [put, List.set, ev, nth, List.nil_append, List.cons_append, md, Nat.reducePow, Nat.reduceAdd, Nat.reduceMul]
    refine RW.pure rfl rfl (fun _ => rfl) (fun V hV => det_lenL Try.underlying43 rfl (hM.slice hb)) (fun _ _ _ => rfl) ?_
    dsimp only [put, List.set, ev, nth, List.nil_append, List.cons_append, md, Nat.reducePow, Nat.reduceAdd, Nat.reduceMul]
    refine RW.pure rfl rfl (fun _ => rfl) (fun V hV => det_move) (fun _ _ _ => rfl) ?_
    dsimp only [put, List.set, ev, nth, List.nil_append, List.cons_append, md, Nat.reducePow, Nat.reduceAdd, Nat.reduceMul]
    refine RW.pure rfl rfl (fun _ => rfl) (fun V hV => det_move) (fun _ _ _ => rfl) ?_
    dsimp only [put, List.set, ev, nth, List.nil_append, List.cons_append, md, Nat.reducePow, Nat.reduceAdd, Nat.reduceMul]
    refine RW.pure rfl rfl (fun _ => rfl) (fun V hV => det_idxS0 Try.underlying38 Try.sizeOf42 rfl rfl (rfl) (by omega)) (fun _ _ _ => rfl) ?_
    dsimp only [put, List.set, ev, nth, List.nil_append, List.cons_append, md, Nat.reducePow, Nat.reduceAdd, Nat.reduceMul]
    refine RW.det [] rfl rfl rfl rfl (fun _ => rfl) (fun V hV => Det.rel (det_load 1 Try.isAgg42 rfl rfl (hrw _ (by omega)))) (fun _ _ _ => rfl) ?_
    dsimp only [put, List.set, ev, nth, List.nil_append, List.cons_append, md, Nat.reducePow, Nat.reduceAdd, Nat.reduceMul]
    refine RW.pure rfl rfl (fun _ => rfl) (fun V hV => det_nilCheck rfl) (fun _ _ _ => rfl) ?_
    dsimp only [put, List.set, ev, nth, List.nil_append, List.cons_append, md, Nat.reducePow, Nat.reduceAdd, Nat.reduceMul]
    refine RW.pure rfl rfl (fun _ => rfl) (fun V hV => det_fieldAddr 1 Try.underlying45 rfl Try.sizeOf3 rfl) (fun _ _ _ => rfl) ?_
    dsimp only [put, List.set, ev, nth, List.nil_append, List.cons_append, md, Nat.reducePow, Nat.reduceAdd, Nat.reduceMul]
    refine RW.det [] rfl rfl rfl rfl (fun _ => rfl) (fun V hV => Det.rel (det_loadAt Try.isAgg3 rfl fun w hw => hM.cell1 hb (Has.dropN (hflat0 hw) 3))) (fun _ _ _ => rfl) ?_
    dsimp only [put, List.set, ev, nth, List.nil_append, List.cons_append, md, Nat.reducePow, Nat.reduceAdd, Nat.reduceMul]
    refine RW.pure rfl rfl (fun _ => rfl) (fun V hV => det_lss rfl rfl) (fun _ _ _ => rfl) ?_
    dsimp only [put, List.set, ev, nth, List.nil_append, List.cons_append, md, Nat.reducePow, Nat.reduceAdd, Nat.reduceMul]
    refine RW.pure rfl rfl (fun _ => rfl) (fun V hV => det_pick_true rfl) (fun _ _ _ => rfl) ?_
    dsimp only [put, List.set, ev, nth, List.nil_append, List.cons_append, md, Nat.reducePow, Nat.reduceAdd, Nat.reduceMul]
    refine RW.done (fun V => _ ++ flat [] V) rfl rfl (fun _ => rfl) (fun V hV => ?_)
    try simp only [flat_nil, List.append_nil]
    try dsimp only [put, blk, flat_nil, List.append_nil, List.append, List.eraseIdx, List.set, ev, nth, List.nil_append, List.cons_append, md, Nat.reducePow, Nat.reduceAdd, Nat.reduceMul]
    refine WC_cond rfl (fun hc3 => ?_) (fun hc3 => ?_)
    · have hc3 := of_decide_eq_true hc3
      rw [mv_b, List.length_append, List.length_take] at hc3
      refine WC_skip ?_
      refine WC_block ?_
      refine WC_seq ?_
      refine WC_region ?_
      refine WL_det rfl (det_move) ?_
      dsimp only [put, List.take, List.drop, List.set, ev, nth, List.nil_append, List.cons_append, md, Nat.reducePow, Nat.reduceAdd, Nat.reduceMul]
      refine WL_det rfl (det_move) ?_
      dsimp only [put, List.take, List.drop, List.set, ev, nth, List.nil_append, List.cons_append, md, Nat.reducePow, Nat.reduceAdd, Nat.reduceMul]
      refine WL_det rfl (det_idxS0 Try.underlying38 Try.sizeOf42 rfl rfl (rfl) (by omega)) ?_
      dsimp only [put, List.take, List.drop, List.set, ev, nth, List.nil_append, List.cons_append, md, Nat.reducePow, Nat.reduceAdd, Nat.reduceMul]
      refine WL_det rfl (det_load 1 Try.isAgg42 rfl rfl (hrw _ (by omega))) ?_
      dsimp only [put, List.take, List.drop, List.set, ev, nth, List.nil_append, List.cons_append, md, Nat.reducePow, Nat.reduceAdd, Nat.reduceMul]
      refine WL_chg rfl (Chg_callT [_, _, _] _ _ rfl Try.call46 rfl (fun w mm hw => rtakeB hM ha w mm hw)) ?_
      rintro _ _ ⟨M1, ⟨rfl, lv1, hM1⟩, rfl⟩
      dsimp only [put, setM, List.zip, List.zipWith, List.take, List.drop, List.append_nil, List.set, ev, nth, List.nil_append, List.cons_append, md, Nat.reducePow, Nat.reduceAdd, Nat.reduceMul]
      refine WL_det rfl (det_move) ?_
      dsimp only [put, List.take, List.drop, List.set, ev, nth, List.nil_append, List.cons_append, md, Nat.reducePow, Nat.reduceAdd, Nat.reduceMul]
      refine WL_det rfl (det_extract rfl rfl) ?_
      dsimp only [put, List.take, List.drop, List.set, ev, nth, List.nil_append, List.cons_append, md, Nat.reducePow, Nat.reduceAdd, Nat.reduceMul]
      refine WL_det rfl (det_extract rfl rfl) ?_
      dsimp only [put, List.take, List.drop, List.set, ev, nth, List.nil_append, List.cons_append, md, Nat.reducePow, Nat.reduceAdd, Nat.reduceMul]
      refine WL_det rfl (det_assign) ?_
      dsimp only [put, List.take, List.drop, List.set, ev, nth, List.nil_append, List.cons_append, md, Nat.reducePow, Nat.reduceAdd, Nat.reduceMul]
      refine WL_det rfl (det_assign) ?_
      dsimp only [put, List.take, List.drop, List.set, ev, nth, List.nil_append, List.cons_append, md, Nat.reducePow, Nat.reduceAdd, Nat.reduceMul]
      refine WL_nil ?_
      refine WC_seq ?_
      refine WC_seq ?_
      refine WC_region ?_
      refine WL_det rfl (det_move) ?_
      dsimp only [put, List.take, List.drop, List.set, ev, nth, List.nil_append, List.cons_append, md, Nat.reducePow, Nat.reduceAdd, Nat.reduceMul]
      refine WL_det rfl (det_not rfl) ?_
      dsimp only [put, List.take, List.drop, List.set, ev, nth, List.nil_append, List.cons_append, md, Nat.reducePow, Nat.reduceAdd, Nat.reduceMul]
      refine WL_nil ?_
      refine WC_cond rfl (fun hc4 => ?_) (fun hc4 => ?_)
      · have he : mv X a b k a = [] := by cases h : mv X a b k a <;> simp_all
        obtain rfl : k = min (X a).length (K.R b - (X b).length) := by rw [mv_a X hab] at he; have := List.drop_eq_nil_iff.1 he; omega
        rw [he, List.tail_nil, ← he, up_eta] at hM1
        obtain ⟨lv, hM⟩ : ∃ lv, BMl 3 K X (mv X a b (min (X a).length (K.R b - (X b).length))) lv M1 := ⟨_, hM1⟩
        refine WC_exit ?_
        refine inB_other (by decide) ?_
        refine inB_same ?_
        refine WC_seq ?_
        refine WC_draw [[], [], [0, 1], [0, 1, 2], [], [], [4, 5], [4, 5, 6], [0, 1, 2, 3, 4, 5, 6, 7], [], [0, 1, 2, 3, 4, 5, 6, 7, 8, 9], [0, 1, 2, 3, 4, 5, 6, 7, 8, 9, 10]] [8] 210 [] (List.nil_sublist _) mixed rfl (by decide) ?_
        refine RW.pure rfl rfl (fun _ => rfl) (fun V hV => det_move) (fun _ _ _ => rfl) ?_
        dsimp only [put, List.set, ev, nth, List.nil_append, List.cons_append, md, Nat.reducePow, Nat.reduceAdd, Nat.reduceMul]
        refine RW.pure rfl rfl (fun _ => rfl) (fun V hV => det_move) (fun _ _ _ => rfl) ?_
        dsimp only [put, List.set, ev, nth, List.nil_append, List.cons_append, md, Nat.reducePow, Nat.reduceAdd, Nat.reduceMul]
        refine RW.pure rfl rfl (fun _ => rfl) (fun V hV => det_idxS0 Try.underlying37 Try.sizeOf39 rfl rfl (rfl) (by omega)) (fun _ _ _ => rfl) ?_
        dsimp only [put, List.set, ev, nth, List.nil_append, List.cons_append, md, Nat.reducePow, Nat.reduceAdd, Nat.reduceMul]
        refine RW.det [] rfl rfl rfl rfl (fun _ => rfl) (fun V hV => Det.rel (det_load 0 Try.isAgg39 rfl rfl (hrl _ (by omega)))) (fun _ _ _ => rfl) ?_
        dsimp only [put, List.set, ev, nth, List.nil_append, List.cons_append, md, Nat.reducePow, Nat.reduceAdd, Nat.reduceMul]
        refine RW.pure rfl rfl (fun _ => rfl) (fun V hV => det_move) (fun _ _ _ => rfl) ?_
        dsimp only [put, List.set, ev, nth, List.nil_append, List.cons_append, md, Nat.reducePow, Nat.reduceAdd, Nat.reduceMul]
        refine RW.pure rfl rfl (fun _ => rfl) (fun V hV => det_move) (fun _ _ _ => rfl) ?_
        dsimp only [put, List.set, ev, nth, List.nil_append, List.cons_append, md, Nat.reducePow, Nat.reduceAdd, Nat.reduceMul]
        refine RW.pure rfl rfl (fun _ => rfl) (fun V hV => det_idxS0 Try.underlying37 Try.sizeOf39 rfl rfl (rfl) (by omega)) (fun _ _ _ => rfl) ?_
        dsimp only [put, List.set, ev, nth, List.nil_append, List.cons_append, md, Nat.reducePow, Nat.reduceAdd, Nat.reduceMul]
        refine RW.det [] rfl rfl rfl rfl (fun _ => rfl) (fun V hV => Det.rel (det_load 0 Try.isAgg39 rfl rfl (hrl _ (by omega)))) (fun _ _ _ => rfl) ?_
        dsimp only [put, List.set, ev, nth, List.nil_append, List.cons_append, md, Nat.reducePow, Nat.reduceAdd, Nat.reduceMul]
        refine RW.tail' (R0 := fun _ v m' => ∃ m1, (v = vn .i64 (min (X a).length (K.R b - (X b).length) : Nat) ∧ BMl 3 K (mv X a b (min (X a).length (K.R b - (X b).length))) (mv X a b (min (X a).length (K.R b - (X b).length))) lv m1) ∧ m' = (some rb, .cells cl 39 (0, 0)) :: (some rb2, .cells cw 42 (0, 0)) :: (some b2, .cells #[.int .i64 op, .int .i64 d1, .int .i64 d2, .int .i64 d3] 47 (0, 0)) :: (m1 ++ m0)) (B := fun V => _ ++ flat [] V) rfl rfl rfl rfl (fun _ => rfl) (fun V hV => by
              simp only [flat_nil, List.append_nil]
              exact Chg_callT [_, _, _] _ _ rfl Try.call47 rfl (fun w mm hw => move_spec 3 K X _ _ _ hM a b ha hb hab hXb (by omega) hw)) (fun _ _ _ _ _ h => h) (fun V hV v m' h => by obtain ⟨_, _, rfl⟩ := h; exact (List.nil_sublist _)) ?_
        dsimp only [put, List.set, ev, nth, List.nil_append, List.cons_append, md, Nat.reducePow, Nat.reduceAdd, Nat.reduceMul]
        refine RW.pure rfl rfl (fun _ => rfl) (fun V hV => det_move) (fun _ _ _ => rfl) ?_
        dsimp only [put, List.set, ev, nth, List.nil_append, List.cons_append, md, Nat.reducePow, Nat.reduceAdd, Nat.reduceMul]
        refine RW.pure (e := fun _ => .bool true) rfl rfl (fun _ => rfl) (fun V hV => Det.bv true (det_eql (by obtain ⟨_, ⟨h, _⟩, _⟩ := hV 8 (by decide) _ rfl; exact h) rfl) (by simp)) (fun V V' hV => by first | rfl | (dsimp only [ev, nth]; simp only [hV 8 (by decide)])) ?_
        dsimp only [put, List.set, ev, nth, List.nil_append, List.cons_append, md, Nat.reducePow, Nat.reduceAdd, Nat.reduceMul]
        refine RW.pure rfl rfl (fun _ => rfl) (fun V hV => det_assign) (fun _ _ _ => rfl) ?_
        dsimp only [put, List.set, ev, nth, List.nil_append, List.cons_append, md, Nat.reducePow, Nat.reduceAdd, Nat.reduceMul]
        refine RW.done (fun V => (V 8).2) rfl rfl (fun _ => rfl) (fun V hV => ?_)
        obtain ⟨MT8, ⟨hv8, hM8⟩, ht8⟩ := hV 8 _ rfl
        simp only [hv8, ht8, List.append_nil, flat_nil]
        try simp only [flat_nil, List.append_nil]
        try dsimp only [put, blk, flat_nil, List.append_nil, List.append, List.eraseIdx, List.set, ev, nth, List.nil_append, List.cons_append, md, Nat.reducePow, Nat.reduceAdd, Nat.reduceMul]
        clear hV ht8
        refine WC_ret ?_
        refine inB_ret ?_
        refine fin_tmp Try.results20 rfl (_) (.cons_cons _ (.cons_cons _ (.cons _ (List.Sublist.refl _)))) ?_
        exact ⟨_, ⟨rfl, _, lv, mv_len hX a b ha hb, hM8⟩, rfl⟩
      · have hk2 : k < (X a).length := by rw [mv_a X hab] at hc4; rcases Nat.lt_or_ge k (X a).length with h | h; exact h; rw [List.drop_eq_nil_iff.2 h] at hc4; simp at hc4
        refine WC_skip ?_
        refine WC_seq ?_
        refine WC_region ?_
        refine WL_det rfl (det_move) ?_
        dsimp only [put, List.take, List.drop, List.set, ev, nth, List.nil_append, List.cons_append, md, Nat.reducePow, Nat.reduceAdd, Nat.reduceMul]
        refine WL_det rfl (det_move) ?_
        dsimp only [put, List.take, List.drop, List.set, ev, nth, List.nil_append, List.cons_append, md, Nat.reducePow, Nat.reduceAdd, Nat.reduceMul]
        refine WL_det rfl (det_idxS0 Try.underlying38 Try.sizeOf42 rfl rfl (rfl) (by omega)) ?_
        dsimp only [put, List.take, List.drop, List.set, ev, nth, List.nil_append, List.cons_append, md, Nat.reducePow, Nat.reduceAdd, Nat.reduceMul]
        refine WL_det rfl (det_load 1 Try.isAgg42 rfl rfl (hrw _ (by omega))) ?_
        dsimp only [put, List.take, List.drop, List.set, ev, nth, List.nil_append, List.cons_append, md, Nat.reducePow, Nat.reduceAdd, Nat.reduceMul]
        refine WL_det rfl (det_move) ?_
        dsimp only [put, List.take, List.drop, List.set, ev, nth, List.nil_append, List.cons_append, md, Nat.reducePow, Nat.reduceAdd, Nat.reduceMul]
        refine WL_chg rfl (Chg_callT [_, _, _] _ _ rfl Try.call44 rfl (fun w mm hw => rputB hM1 hb (by omega) ((mv X a b k a).headD 0) w mm hw)) ?_
        rintro _ _ ⟨M2, ⟨rfl, lv2, hM2⟩, rfl⟩
        dsimp only [put, setM, List.zip, List.zipWith, List.take, List.drop, List.append_nil, List.set, ev, nth, List.nil_append, List.cons_append, md, Nat.reducePow, Nat.reduceAdd, Nat.reduceMul]
        refine WL_nil ?_
        refine WC_region ?_
        refine WL_det rfl (det_move) ?_
        dsimp only [put, List.take, List.drop, List.set, ev, nth, List.nil_append, List.cons_append, md, Nat.reducePow, Nat.reduceAdd, Nat.reduceMul]
        refine WL_det rfl (det_addi (q := 1) rfl rfl (by omega)) ?_
        dsimp only [put, List.take, List.drop, List.set, ev, nth, List.nil_append, List.cons_append, md, Nat.reducePow, Nat.reduceAdd, Nat.reduceMul]
        refine WL_det rfl (det_assign) ?_
        dsimp only [put, List.take, List.drop, List.set, ev, nth, List.nil_append, List.cons_append, md, Nat.reducePow, Nat.reduceAdd, Nat.reduceMul]
        refine WL_nil ?_
        refine ⟨(k + 1, M2), ?_, ?_, ?_, ?_⟩
        · rfl
        · rfl
        · refine ⟨by dsimp only; omega, lv2, ?_⟩
          dsimp only
          rw [up_ne _ _ (Ne.symm hab), if_pos (by rw [mv_b, List.length_append, List.length_take]; omega), mv_step X hab hk2] at hM2
          exact hM2
        · dsimp only; omega
    · have hc3 := of_decide_eq_false hc3
      rw [mv_b, List.length_append, List.length_take] at hc3
      obtain rfl : k = min (X a).length (K.R b - (X b).length) := by omega
      refine WC_exit ?_
      refine inB_same ?_
      refine WC_seq ?_
      refine WC_draw [[], [], [0, 1], [0, 1, 2], [], [], [4, 5], [4, 5, 6], [0, 1, 2, 3, 4, 5, 6, 7], [], [0, 1, 2, 3, 4, 5, 6, 7, 8, 9], [0, 1, 2, 3, 4, 5, 6, 7, 8, 9, 10]] [8] 210 [] (List.nil_sublist _) mixed rfl (by decide) ?_
      refine RW.pure rfl rfl (fun _ => rfl) (fun V hV => det_move) (fun _ _ _ => rfl) ?_
      dsimp only [put, List.set, ev, nth, List.nil_append, List.cons_append, md, Nat.reducePow, Nat.reduceAdd, Nat.reduceMul]
      refine RW.pure rfl rfl (fun _ => rfl) (fun V hV => det_move) (fun _ _ _ => rfl) ?_
      dsimp only [put, List.set, ev, nth, List.nil_append, List.cons_append, md, Nat.reducePow, Nat.reduceAdd, Nat.reduceMul]
      refine RW.pure rfl rfl (fun _ => rfl) (fun V hV => det_idxS0 Try.underlying37 Try.sizeOf39 rfl rfl (rfl) (by omega)) (fun _ _ _ => rfl) ?_
      dsimp only [put, List.set, ev, nth, List.nil_append, List.cons_append, md, Nat.reducePow, Nat.reduceAdd, Nat.reduceMul]
      refine RW.det [] rfl rfl rfl rfl (fun _ => rfl) (fun V hV => Det.rel (det_load 0 Try.isAgg39 rfl rfl (hrl _ (by omega)))) (fun _ _ _ => rfl) ?_
      dsimp only [put, List.set, ev, nth, List.nil_append, List.cons_append, md, Nat.reducePow, Nat.reduceAdd, Nat.reduceMul]
      refine RW.pure rfl rfl (fun _ => rfl) (fun V hV => det_move) (fun _ _ _ => rfl) ?_
      dsimp only [put, List.set, ev, nth, List.nil_append, List.cons_append, md, Nat.reducePow, Nat.reduceAdd, Nat.reduceMul]
      refine RW.pure rfl rfl (fun _ => rfl) (fun V hV => det_move) (fun _ _ _ => rfl) ?_
      dsimp only [put, List.set, ev, nth, List.nil_append, List.cons_append, md, Nat.reducePow, Nat.reduceAdd, Nat.reduceMul]
      refine RW.pure rfl rfl (fun _ => rfl) (fun V hV => det_idxS0 Try.underlying37 Try.sizeOf39 rfl rfl (rfl) (by omega)) (fun _ _ _ => rfl) ?_
      dsimp only [put, List.set, ev, nth, List.nil_append, List.cons_append, md, Nat.reducePow, Nat.reduceAdd, Nat.reduceMul]
      refine RW.det [] rfl rfl rfl rfl (fun _ => rfl) (fun V hV => Det.rel (det_load 0 Try.isAgg39 rfl rfl (hrl _ (by omega)))) (fun _ _ _ => rfl) ?_
      dsimp only [put, List.set, ev, nth, List.nil_append, List.cons_append, md, Nat.reducePow, Nat.reduceAdd, Nat.reduceMul]
      refine RW.tail' (R0 := fun _ v m' => ∃ m1, (v = vn .i64 (min (X a).length (K.R b - (X b).length) : Nat) ∧ BMl 3 K (mv X a b (min (X a).length (K.R b - (X b).length))) (mv X a b (min (X a).length (K.R b - (X b).length))) lv m1) ∧ m' = (some rb, .cells cl 39 (0, 0)) :: (some rb2, .cells cw 42 (0, 0)) :: (some b2, .cells #[.int .i64 op, .int .i64 d1, .int .i64 d2, .int .i64 d3] 47 (0, 0)) :: (m1 ++ m0)) (B := fun V => _ ++ flat [] V) rfl rfl rfl rfl (fun _ => rfl) (fun V hV => by
            simp only [flat_nil, List.append_nil]
            exact Chg_callT [_, _, _] _ _ rfl Try.call47 rfl (fun w mm hw => move_spec 3 K X _ _ _ hM a b ha hb hab hXb (by omega) hw)) (fun _ _ _ _ _ h => h) (fun V hV v m' h => by obtain ⟨_, _, rfl⟩ := h; exact (List.nil_sublist _)) ?_
      dsimp only [put, List.set, ev, nth, List.nil_append, List.cons_append, md, Nat.reducePow, Nat.reduceAdd, Nat.reduceMul]
      refine RW.pure rfl rfl (fun _ => rfl) (fun V hV => det_move) (fun _ _ _ => rfl) ?_
      dsimp only [put, List.set, ev, nth, List.nil_append, List.cons_append, md, Nat.reducePow, Nat.reduceAdd, Nat.reduceMul]
      refine RW.pure (e := fun _ => .bool true) rfl rfl (fun _ => rfl) (fun V hV => Det.bv true (det_eql (by obtain ⟨_, ⟨h, _⟩, _⟩ := hV 8 (by decide) _ rfl; exact h) rfl) (by simp)) (fun V V' hV => by first | rfl | (dsimp only [ev, nth]; simp only [hV 8 (by decide)])) ?_
      dsimp only [put, List.set, ev, nth, List.nil_append, List.cons_append, md, Nat.reducePow, Nat.reduceAdd, Nat.reduceMul]
      refine RW.pure rfl rfl (fun _ => rfl) (fun V hV => det_assign) (fun _ _ _ => rfl) ?_
      dsimp only [put, List.set, ev, nth, List.nil_append, List.cons_append, md, Nat.reducePow, Nat.reduceAdd, Nat.reduceMul]
      refine RW.done (fun V => (V 8).2) rfl rfl (fun _ => rfl) (fun V hV => ?_)
      obtain ⟨MT8, ⟨hv8, hM8⟩, ht8⟩ := hV 8 _ rfl
      simp only [hv8, ht8, List.append_nil, flat_nil]
      try simp only [flat_nil, List.append_nil]
      try dsimp only [put, blk, flat_nil, List.append_nil, List.append, List.eraseIdx, List.set, ev, nth, List.nil_append, List.cons_append, md, Nat.reducePow, Nat.reduceAdd, Nat.reduceMul]
      clear hV ht8
      refine WC_ret ?_
      refine inB_ret ?_
      refine fin_tmp Try.results20 rfl (_) (.cons_cons _ (.cons_cons _ (.cons _ (List.Sublist.refl _)))) ?_
      exact ⟨_, ⟨rfl, _, lv, mv_len hX a b ha hb, hM8⟩, rfl⟩

set_option maxRecDepth 100000 in
set_option maxHeartbeats 2000000 in
theorem one_drain (K : Bx) (X : Nat → List Int) (lv : Nat → Value) (M : Mem) (hM : BMl 3 K X X lv M) (hX : ∀ a, a < 3 → (X a).length ≤ K.R a) (hR : ∀ a, a < 3 → K.R a ≤ 9) (rb rb2 cL cW : Nat) (cl cw : Array Value) (hrl : ∀ a, a < 3 → cl[a]? = some (pS K a)) (hrw : ∀ a, a < 3 → cw[a]? = some (pW K a)) (op d1 d2 d3 : Int) (a b : Nat) (hpa : pl d1 = a) (hpb : pl d2 = b) (hop : op = 4) {w0 : World} {m0 : Mem} {w : World} (hw0 : Has w0 ((some rb, .cells cl 39 (0, 0)) :: (some rb2, .cells cw 42 (0, 0)) :: (M ++ m0)) w) :
    Calls Try.prog 20 [.slice (some ⟨rb, 0, none⟩) 3 cL, .slice (some ⟨rb2, 0, none⟩) 3 cW, .agg #[.int .i64 op, .int .i64 d1, .int .i64 d2, .int .i64 d3]].toArray w (Post w0 fun v m => ∃ M1, (v = .bool true ∧ ∃ X' lv', (∀ a, a < 3 → (X' a).length ≤ K.R a) ∧ BMl 3 K X' X' lv' M1) ∧ m = (some rb, .cells cl 39 (0, 0)) :: (some rb2, .cells cw 42 (0, 0)) :: (M1 ++ m0)) := by
  have ha : a < 3 := hpa ▸ pl_lt d1
  have hb : b < 3 := hpb ▸ pl_lt d2
  have hRa := hR a ha
  have hRb := hR b hb
  have hXa := hX a ha
  have hXb := hX b hb
  refine calls_of_WCm Try.func20 rfl ?_ hw0
  simp only [Try.ntmps20, List.length_cons, List.length_nil, Nat.reduceAdd, Nat.reduceSub, List.replicate, List.cons_append, List.nil_append]
  refine WC_seq ?_
  refine WC_region ?_
  refine WL_relAt 2 rfl (rel_box rfl rfl) ?_
  rintro _ _ ⟨b2, rfl, rfl⟩
  dsimp only [put, List.take, List.drop, List.set, ev, nth, List.nil_append, List.cons_append, md, Nat.reducePow, Nat.reduceAdd, Nat.reduceMul]
  refine WL_det rfl (det_assign) ?_
  dsimp only [put, List.take, List.drop, List.set, ev, nth, List.nil_append, List.cons_append, md, Nat.reducePow, Nat.reduceAdd, Nat.reduceMul]
  refine WL_nil ?_
  refine WC_seq ?_
  refine WC_draw [[], [0], [0, 1], [], [3], [0, 1, 2, 3, 4], [0, 1, 2, 3, 4, 5], [0, 1, 2, 3, 4, 5, 6]] [] 210 [] (List.nil_sublist _) mixed rfl (by decide) ?_
  refine RW.pure rfl rfl (fun _ => rfl) (fun V hV => det_fieldAddr 1 Try.underlying47 rfl Try.sizeOf3 rfl) (fun _ _ _ => rfl) ?_
  dsimp only [put, List.set, ev, nth, List.nil_append, List.cons_append, md, Nat.reducePow, Nat.reduceAdd, Nat.reduceMul]
  refine RW.det [] rfl rfl rfl rfl (fun _ => rfl) (fun V hV => Det.rel (det_load 2 Try.isAgg3 rfl rfl rfl)) (fun _ _ _ => rfl) ?_
  dsimp only [put, List.set, ev, nth, List.nil_append, List.cons_append, md, Nat.reducePow, Nat.reduceAdd, Nat.reduceMul]
  refine RW.det [] rfl rfl rfl rfl (fun _ => rfl) (fun V hV => Rel_call rfl Try.call43 (fun w hw => place_k d1 a hpa w)) (fun _ _ _ => rfl) ?_
  dsimp only [put, List.set, ev, nth, List.nil_append, List.cons_append, md, Nat.reducePow, Nat.reduceAdd, Nat.reduceMul]
  refine RW.pure rfl rfl (fun _ => rfl) (fun V hV => det_fieldAddr 2 Try.underlying47 rfl Try.sizeOf3 rfl) (fun _ _ _ => rfl) ?_
  dsimp only [put, List.set, ev, nth, List.nil_append, List.cons_append, md, Nat.reducePow, Nat.reduceAdd, Nat.reduceMul]
  refine RW.det [] rfl rfl rfl rfl (fun _ => rfl) (fun V hV => Det.rel (det_load 2 Try.isAgg3 rfl rfl rfl)) (fun _ _ _ => rfl) ?_
  dsimp only [put, List.set, ev, nth, List.nil_append, List.cons_append, md, Nat.reducePow, Nat.reduceAdd, Nat.reduceMul]
  refine RW.det [] rfl rfl rfl rfl (fun _ => rfl) (fun V hV => Rel_call rfl Try.call43 (fun w hw => place_k d2 b hpb w)) (fun _ _ _ => rfl) ?_
  dsimp only [put, List.set, ev, nth, List.nil_append, List.cons_append, md, Nat.reducePow, Nat.reduceAdd, Nat.reduceMul]
  refine RW.pure rfl rfl (fun _ => rfl) (fun V hV => det_assign) (fun _ _ _ => rfl) ?_
  dsimp only [put, List.set, ev, nth, List.nil_append, List.cons_append, md, Nat.reducePow, Nat.reduceAdd, Nat.reduceMul]
  refine RW.pure rfl rfl (fun _ => rfl) (fun V hV => det_assign) (fun _ _ _ => rfl) ?_
  dsimp only [put, List.set, ev, nth, List.nil_append, List.cons_append, md, Nat.reducePow, Nat.reduceAdd, Nat.reduceMul]
  refine RW.done (fun V => _ ++ flat [] V) rfl rfl (fun _ => rfl) (fun V hV => ?_)
  try simp only [flat_nil, List.append_nil]
  try dsimp only [put, blk, flat_nil, List.append_nil, List.append, List.eraseIdx, List.set, ev, nth, List.nil_append, List.cons_append, md, Nat.reducePow, Nat.reduceAdd, Nat.reduceMul]
  refine WC_seq ?_
  refine WC_seq ?_
  refine WC_region ?_
  refine WL_det rfl (det_fieldAddr 0 Try.underlying47 rfl Try.sizeOf3 rfl) ?_
  dsimp only [put, List.take, List.drop, List.set, ev, nth, List.nil_append, List.cons_append, md, Nat.reducePow, Nat.reduceAdd, Nat.reduceMul]
  refine WL_det rfl (det_load 2 Try.isAgg3 rfl rfl rfl) ?_
  dsimp only [put, List.take, List.drop, List.set, ev, nth, List.nil_append, List.cons_append, md, Nat.reducePow, Nat.reduceAdd, Nat.reduceMul]
  refine WL_nil ?_
  refine WC_block ?_
  refine WC_seq ?_
  refine WC_region ?_
  refine WL_det rfl (Det.bv false (det_eqlz rfl rfl) (by simp; omega)) ?_
  dsimp only [put, List.take, List.drop, List.set, ev, nth, List.nil_append, List.cons_append, md, Nat.reducePow, Nat.reduceAdd, Nat.reduceMul]
  refine WL_det rfl (det_assign) ?_
  dsimp only [put, List.take, List.drop, List.set, ev, nth, List.nil_append, List.cons_append, md, Nat.reducePow, Nat.reduceAdd, Nat.reduceMul]
  refine WL_nil ?_
  refine WC_cond_false rfl ?_
  refine WC_seq ?_
  refine WC_region ?_
  refine WL_det rfl (Det.bv false (det_eqlz rfl rfl) (by simp; omega)) ?_
  dsimp only [put, List.take, List.drop, List.set, ev, nth, List.nil_append, List.cons_append, md, Nat.reducePow, Nat.reduceAdd, Nat.reduceMul]
  refine WL_det rfl (det_assign) ?_
  dsimp only [put, List.take, List.drop, List.set, ev, nth, List.nil_append, List.cons_append, md, Nat.reducePow, Nat.reduceAdd, Nat.reduceMul]
  refine WL_nil ?_
  refine WC_cond_false rfl ?_
  refine WC_seq ?_
  refine WC_region ?_
  refine WL_det rfl (Det.bv false (det_eqlz rfl rfl) (by simp; omega)) ?_
  dsimp only [put, List.take, List.drop, List.set, ev, nth, List.nil_append, List.cons_append, md, Nat.reducePow, Nat.reduceAdd, Nat.reduceMul]
  refine WL_det rfl (det_assign) ?_
  dsimp only [put, List.take, List.drop, List.set, ev, nth, List.nil_append, List.cons_append, md, Nat.reducePow, Nat.reduceAdd, Nat.reduceMul]
  refine WL_nil ?_
  refine WC_cond_false rfl ?_
  refine WC_seq ?_
  refine WC_region ?_
  refine WL_det rfl (Det.bv true (det_eqlz rfl rfl) (by simpa using hop)) ?_
  dsimp only [put, List.take, List.drop, List.set, ev, nth, List.nil_append, List.cons_append, md, Nat.reducePow, Nat.reduceAdd, Nat.reduceMul]
  refine WL_det rfl (det_assign) ?_
  dsimp only [put, List.take, List.drop, List.set, ev, nth, List.nil_append, List.cons_append, md, Nat.reducePow, Nat.reduceAdd, Nat.reduceMul]
  refine WL_nil ?_
  refine WC_cond_true rfl ?_
  refine WC_seq ?_
  refine WC_region ?_
  refine WL_relAt 3 rfl (rel_lit0 Try.underlying43 Try.sizeOf3) ?_
  rintro _ _ ⟨b3, rfl, rfl⟩
  dsimp only [put, List.take, List.drop, List.set, ev, nth, List.nil_append, List.cons_append, md, Nat.reducePow, Nat.reduceAdd, Nat.reduceMul]
  refine WL_det rfl (det_move) ?_
  dsimp only [put, List.take, List.drop, List.set, ev, nth, List.nil_append, List.cons_append, md, Nat.reducePow, Nat.reduceAdd, Nat.reduceMul]
  refine WL_det rfl (det_move) ?_
  dsimp only [put, List.take, List.drop, List.set, ev, nth, List.nil_append, List.cons_append, md, Nat.reducePow, Nat.reduceAdd, Nat.reduceMul]
  refine WL_det rfl (det_idxS0 Try.underlying38 Try.sizeOf42 rfl rfl (rfl) (by omega)) ?_
  dsimp only [put, List.take, List.drop, List.set, ev, nth, List.nil_append, List.cons_append, md, Nat.reducePow, Nat.reduceAdd, Nat.reduceMul]
  refine WL_det rfl (det_load 1 Try.isAgg42 rfl rfl (hrw _ (by omega))) ?_
  dsimp only [put, List.take, List.drop, List.set, ev, nth, List.nil_append, List.cons_append, md, Nat.reducePow, Nat.reduceAdd, Nat.reduceMul]
  refine WL_det rfl (det_nilCheck rfl) ?_
  dsimp only [put, List.take, List.drop, List.set, ev, nth, List.nil_append, List.cons_append, md, Nat.reducePow, Nat.reduceAdd, Nat.reduceMul]
  refine WL_det rfl (det_fieldAddr 0 Try.underlying45 rfl Try.sizeOf43 rfl) ?_
  dsimp only [put, List.take, List.drop, List.set, ev, nth, List.nil_append, List.cons_append, md, Nat.reducePow, Nat.reduceAdd, Nat.reduceMul]
  refine WL_det rfl (det_loadAt Try.isAgg43 rfl fun w hw => hM.cell0 ha (Has.dropN hw 4)) ?_
  dsimp only [put, List.take, List.drop, List.set, ev, nth, List.nil_append, List.cons_append, md, Nat.reducePow, Nat.reduceAdd, Nat.reduceMul]
  refine WL_chg rfl (chg_appendVL 3 rfl (RowV.none0 _ (fun _ => undef) _) rfl rfl (fun w hw => RdZ.l ((hM.facts ha (Has.dropN hw 4)).2.2.2)) (iv_one (X a)) Try.underlying43 ei3 rfl (by rw [iv_len]; omega) (by decide)) ?_
  rintro v137 _ ⟨e137, hr137, rfl⟩
  dsimp only [put, List.eraseIdx, List.set, ev, nth, List.nil_append, List.cons_append, md, Nat.reducePow, Nat.reduceAdd, Nat.reduceMul]
  have hr137 : RowV 3 (X a).length (fun i => .int .i64 ((X a).getD i 0)) v137 e137 := by rw [Nat.zero_add, iv_len] at hr137; exact hr137.congr fun i hi => by simp only [catV]; rw [if_neg (Nat.not_lt_zero _), Nat.sub_zero, iv_getD _ hi]
  refine WL_det rfl (det_assign) ?_
  dsimp only [put, List.take, List.drop, List.set, ev, nth, List.nil_append, List.cons_append, md, Nat.reducePow, Nat.reduceAdd, Nat.reduceMul]
  refine WL_nil ?_
  refine WC_seq ?_
  refine WC_region ?_
  refine WL_det rfl (det_move) ?_
  dsimp only [put, List.take, List.drop, List.set, ev, nth, List.nil_append, List.cons_append, md, Nat.reducePow, Nat.reduceAdd, Nat.reduceMul]
  refine WL_det rfl (det_move) ?_
  dsimp only [put, List.take, List.drop, List.set, ev, nth, List.nil_append, List.cons_append, md, Nat.reducePow, Nat.reduceAdd, Nat.reduceMul]
  refine WL_det rfl (det_idxS0 Try.underlying38 Try.sizeOf42 rfl rfl (rfl) (by omega)) ?_
  dsimp only [put, List.take, List.drop, List.set, ev, nth, List.nil_append, List.cons_append, md, Nat.reducePow, Nat.reduceAdd, Nat.reduceMul]
  refine WL_det rfl (det_load 1 Try.isAgg42 rfl rfl (hrw _ (by omega))) ?_
  dsimp only [put, List.take, List.drop, List.set, ev, nth, List.nil_append, List.cons_append, md, Nat.reducePow, Nat.reduceAdd, Nat.reduceMul]
  refine WL_det rfl (det_nilCheck rfl) ?_
  dsimp only [put, List.take, List.drop, List.set, ev, nth, List.nil_append, List.cons_append, md, Nat.reducePow, Nat.reduceAdd, Nat.reduceMul]
  refine WL_det rfl (det_fieldAddr 0 Try.underlying45 rfl Try.sizeOf43 rfl) ?_
  dsimp only [put, List.take, List.drop, List.set, ev, nth, List.nil_append, List.cons_append, md, Nat.reducePow, Nat.reduceAdd, Nat.reduceMul]
  refine WL_chg rfl (chg_storeRef [_, _, _, _] _ hM ha Try.sizeOf43 rfl rfl rfl) ?_
  rintro _ _ ⟨M1, ⟨lv1, hM1⟩, rfl⟩
  dsimp only [put, List.take, List.drop, List.set, ev, nth, List.nil_append, List.cons_append, md, Nat.reducePow, Nat.reduceAdd, Nat.reduceMul]
  refine WL_nil ?_
  refine WC_seq ?_
  refine WC_region ?_
  refine WL_det rfl (det_move) ?_
  dsimp only [put, List.take, List.drop, List.set, ev, nth, List.nil_append, List.cons_append, md, Nat.reducePow, Nat.reduceAdd, Nat.reduceMul]
  refine WL_det rfl (det_move) ?_
  dsimp only [put, List.take, List.drop, List.set, ev, nth, List.nil_append, List.cons_append, md, Nat.reducePow, Nat.reduceAdd, Nat.reduceMul]
  refine WL_det rfl (det_idxS0 Try.underlying37 Try.sizeOf39 rfl rfl (rfl) (by omega)) ?_
  dsimp only [put, List.take, List.drop, List.set, ev, nth, List.nil_append, List.cons_append, md, Nat.reducePow, Nat.reduceAdd, Nat.reduceMul]
  refine WL_det rfl (det_load 0 Try.isAgg39 rfl rfl (hrl _ (by omega))) ?_
  dsimp only [put, List.take, List.drop, List.set, ev, nth, List.nil_append, List.cons_append, md, Nat.reducePow, Nat.reduceAdd, Nat.reduceMul]
  refine WL_chg rfl (Chg_callT [_, _, _, _] _ _ rfl Try.call22 rfl (fun w mm hw => drainB hM1 ha (by omega) w mm hw)) ?_
  rintro v148 _ ⟨_, ⟨e148, M2, rfl, hr148, hM2⟩, rfl⟩
  dsimp only [put, setM, List.zip, List.zipWith, List.take, List.drop, List.append_nil, List.set, ev, nth, List.nil_append, List.cons_append, md, Nat.reducePow, Nat.reduceAdd, Nat.reduceMul]
  refine WL_det rfl (det_move) ?_
  dsimp only [put, List.take, List.drop, List.set, ev, nth, List.nil_append, List.cons_append, md, Nat.reducePow, Nat.reduceAdd, Nat.reduceMul]
  refine WL_rel rfl (Rel_call rfl Try.call21 (fun w hw => ints_same (X a) v148 v137 (by omega) w (RowV.z hw 4 rfl hr148) (RowV.z hw 3 rfl hr137))) ?_
  rintro _ _ ⟨rfl, rfl⟩
  dsimp only [put, List.append_nil, List.set, ev, nth, List.nil_append, List.cons_append, md, Nat.reducePow, Nat.reduceAdd, Nat.reduceMul]
  try simp only [List.append_nil]
  refine WL_det rfl (det_assign) ?_
  dsimp only [put, List.take, List.drop, List.set, ev, nth, List.nil_append, List.cons_append, md, Nat.reducePow, Nat.reduceAdd, Nat.reduceMul]
  refine WL_nil ?_
  refine WC_ret ?_
  refine inB_ret ?_
  refine fin_tmp Try.results20 rfl (_) (.cons_cons _ (.cons_cons _ (.cons _ (.cons _ (.cons _ (List.Sublist.refl _)))))) ?_
  exact ⟨_, ⟨rfl, _, lv1, up_len hX a (Nat.zero_le _), hM2⟩, rfl⟩

set_option maxRecDepth 100000 in
set_option maxHeartbeats 2000000 in
theorem one_other (K : Bx) (X : Nat → List Int) (lv : Nat → Value) (M : Mem) (hM : BMl 3 K X X lv M) (hX : ∀ a, a < 3 → (X a).length ≤ K.R a) (hR : ∀ a, a < 3 → K.R a ≤ 9) (rb rb2 cL cW : Nat) (cl cw : Array Value) (hrl : ∀ a, a < 3 → cl[a]? = some (pS K a)) (hrw : ∀ a, a < 3 → cw[a]? = some (pW K a)) (op d1 d2 d3 : Int) (a b : Nat) (hpa : pl d1 = a) (hpb : pl d2 = b) (hop : ¬ op = 1 ∧ ¬ op = 2 ∧ ¬ op = 3 ∧ ¬ op = 4) {w0 : World} {m0 : Mem} {w : World} (hw0 : Has w0 ((some rb, .cells cl 39 (0, 0)) :: (some rb2, .cells cw 42 (0, 0)) :: (M ++ m0)) w) :
    Calls Try.prog 20 [.slice (some ⟨rb, 0, none⟩) 3 cL, .slice (some ⟨rb2, 0, none⟩) 3 cW, .agg #[.int .i64 op, .int .i64 d1, .int .i64 d2, .int .i64 d3]].toArray w (Post w0 fun v m => ∃ M1, (v = .bool true ∧ ∃ X' lv', (∀ a, a < 3 → (X' a).length ≤ K.R a) ∧ BMl 3 K X' X' lv' M1) ∧ m = (some rb, .cells cl 39 (0, 0)) :: (some rb2, .cells cw 42 (0, 0)) :: (M1 ++ m0)) := by
  have ha : a < 3 := hpa ▸ pl_lt d1
  have hb : b < 3 := hpb ▸ pl_lt d2
  have hRa := hR a ha
  have hRb := hR b hb
  have hXa := hX a ha
  have hXb := hX b hb
  refine calls_of_WCm Try.func20 rfl ?_ hw0
  simp only [Try.ntmps20, List.length_cons, List.length_nil, Nat.reduceAdd, Nat.reduceSub, List.replicate, List.cons_append, List.nil_append]
  refine WC_seq ?_
  refine WC_region ?_
  refine WL_relAt 2 rfl (rel_box rfl rfl) ?_
  rintro _ _ ⟨b2, rfl, rfl⟩
  dsimp only [put, List.take, List.drop, List.set, ev, nth, List.nil_append, List.cons_append, md, Nat.reducePow, Nat.reduceAdd, Nat.reduceMul]
  refine WL_det rfl (det_assign) ?_
  dsimp only [put, List.take, List.drop, List.set, ev, nth, List.nil_append, List.cons_append, md, Nat.reducePow, Nat.reduceAdd, Nat.reduceMul]
  refine WL_nil ?_
  refine WC_seq ?_
  refine WC_draw [[], [0], [0, 1], [], [3], [0, 1, 2, 3, 4], [0, 1, 2, 3, 4, 5], [0, 1, 2, 3, 4, 5, 6]] [] 210 [] (List.nil_sublist _) mixed rfl (by decide) ?_
  refine RW.pure rfl rfl (fun _ => rfl) (fun V hV => det_fieldAddr 1 Try.underlying47 rfl Try.sizeOf3 rfl) (fun _ _ _ => rfl) ?_
  dsimp only [put, List.set, ev, nth, List.nil_append, List.cons_append, md, Nat.reducePow, Nat.reduceAdd, Nat.reduceMul]
  refine RW.det [] rfl rfl rfl rfl (fun _ => rfl) (fun V hV => Det.rel (det_load 2 Try.isAgg3 rfl rfl rfl)) (fun _ _ _ => rfl) ?_
  dsimp only [put, List.set, ev, nth, List.nil_append, List.cons_append, md, Nat.reducePow, Nat.reduceAdd, Nat.reduceMul]
  refine RW.det [] rfl rfl rfl rfl (fun _ => rfl) (fun V hV => Rel_call rfl Try.call43 (fun w hw => place_k d1 a hpa w)) (fun _ _ _ => rfl) ?_
  dsimp only [put, List.set, ev, nth, List.nil_append, List.cons_append, md, Nat.reducePow, Nat.reduceAdd, Nat.reduceMul]
  refine RW.pure rfl rfl (fun _ => rfl) (fun V hV => det_fieldAddr 2 Try.underlying47 rfl Try.sizeOf3 rfl) (fun _ _ _ => rfl) ?_
  dsimp only [put, List.set, ev, nth, List.nil_append, List.cons_append, md, Nat.reducePow, Nat.reduceAdd, Nat.reduceMul]
  refine RW.det [] rfl rfl rfl rfl (fun _ => rfl) (fun V hV => Det.rel (det_load 2 Try.isAgg3 rfl rfl rfl)) (fun _ _ _ => rfl) ?_
  dsimp only [put, List.set, ev, nth, List.nil_append, List.cons_append, md, Nat.reducePow, Nat.reduceAdd, Nat.reduceMul]
  refine RW.det [] rfl rfl rfl rfl (fun _ => rfl) (fun V hV => Rel_call rfl Try.call43 (fun w hw => place_k d2 b hpb w)) (fun _ _ _ => rfl) ?_
  dsimp only [put, List.set, ev, nth, List.nil_append, List.cons_append, md, Nat.reducePow, Nat.reduceAdd, Nat.reduceMul]
  refine RW.pure rfl rfl (fun _ => rfl) (fun V hV => det_assign) (fun _ _ _ => rfl) ?_
  dsimp only [put, List.set, ev, nth, List.nil_append, List.cons_append, md, Nat.reducePow, Nat.reduceAdd, Nat.reduceMul]
  refine RW.pure rfl rfl (fun _ => rfl) (fun V hV => det_assign) (fun _ _ _ => rfl) ?_
  dsimp only [put, List.set, ev, nth, List.nil_append, List.cons_append, md, Nat.reducePow, Nat.reduceAdd, Nat.reduceMul]
  refine RW.done (fun V => _ ++ flat [] V) rfl rfl (fun _ => rfl) (fun V hV => ?_)
  try simp only [flat_nil, List.append_nil]
  try dsimp only [put, blk, flat_nil, List.append_nil, List.append, List.eraseIdx, List.set, ev, nth, List.nil_append, List.cons_append, md, Nat.reducePow, Nat.reduceAdd, Nat.reduceMul]
  refine WC_seq ?_
  refine WC_seq ?_
  refine WC_region ?_
  refine WL_det rfl (det_fieldAddr 0 Try.underlying47 rfl Try.sizeOf3 rfl) ?_
  dsimp only [put, List.take, List.drop, List.set, ev, nth, List.nil_append, List.cons_append, md, Nat.reducePow, Nat.reduceAdd, Nat.reduceMul]
  refine WL_det rfl (det_load 2 Try.isAgg3 rfl rfl rfl) ?_
  dsimp only [put, List.take, List.drop, List.set, ev, nth, List.nil_append, List.cons_append, md, Nat.reducePow, Nat.reduceAdd, Nat.reduceMul]
  refine WL_nil ?_
  refine WC_block ?_
  refine WC_seq ?_
  refine WC_region ?_
  refine WL_det rfl (Det.bv false (det_eqlz rfl rfl) (by simp; omega)) ?_
  dsimp only [put, List.take, List.drop, List.set, ev, nth, List.nil_append, List.cons_append, md, Nat.reducePow, Nat.reduceAdd, Nat.reduceMul]
  refine WL_det rfl (det_assign) ?_
  dsimp only [put, List.take, List.drop, List.set, ev, nth, List.nil_append, List.cons_append, md, Nat.reducePow, Nat.reduceAdd, Nat.reduceMul]
  refine WL_nil ?_
  refine WC_cond_false rfl ?_
  refine WC_seq ?_
  refine WC_region ?_
  refine WL_det rfl (Det.bv false (det_eqlz rfl rfl) (by simp; omega)) ?_
  dsimp only [put, List.take, List.drop, List.set, ev, nth, List.nil_append, List.cons_append, md, Nat.reducePow, Nat.reduceAdd, Nat.reduceMul]
  refine WL_det rfl (det_assign) ?_
  dsimp only [put, List.take, List.drop, List.set, ev, nth, List.nil_append, List.cons_append, md, Nat.reducePow, Nat.reduceAdd, Nat.reduceMul]
  refine WL_nil ?_
  refine WC_cond_false rfl ?_
  refine WC_seq ?_
  refine WC_region ?_
  refine WL_det rfl (Det.bv false (det_eqlz rfl rfl) (by simp; omega)) ?_
  dsimp only [put, List.take, List.drop, List.set, ev, nth, List.nil_append, List.cons_append, md, Nat.reducePow, Nat.reduceAdd, Nat.reduceMul]
  refine WL_det rfl (det_assign) ?_
  dsimp only [put, List.take, List.drop, List.set, ev, nth, List.nil_append, List.cons_append, md, Nat.reducePow, Nat.reduceAdd, Nat.reduceMul]
  refine WL_nil ?_
  refine WC_cond_false rfl ?_
  refine WC_seq ?_
  refine WC_region ?_
  refine WL_det rfl (Det.bv false (det_eqlz rfl rfl) (by simp; omega)) ?_
  dsimp only [put, List.take, List.drop, List.set, ev, nth, List.nil_append, List.cons_append, md, Nat.reducePow, Nat.reduceAdd, Nat.reduceMul]
  refine WL_det rfl (det_assign) ?_
  dsimp only [put, List.take, List.drop, List.set, ev, nth, List.nil_append, List.cons_append, md, Nat.reducePow, Nat.reduceAdd, Nat.reduceMul]
  refine WL_nil ?_
  refine WC_cond_false rfl ?_
  refine WC_skip ?_
  refine WC_seq ?_
  refine WC_draw [[], [], [0, 1], [0, 1, 2], [], [], [4, 5], [4, 5, 6], [], [8], [8, 9], [0, 1, 2, 3, 4, 5, 6, 7, 8, 9, 10], [0, 1, 2, 3, 4, 5, 6, 7, 8, 9, 10, 11], [0, 1, 2, 3, 4, 5, 6, 7, 8, 9, 10, 11, 12], [0, 1, 2, 3, 4, 5, 6, 7, 8, 9, 10, 11, 12, 13], [0, 1, 2, 3, 4, 5, 6, 7, 8, 9, 10, 11, 12, 13], [0, 1, 2, 3, 4, 5, 6, 7, 8, 9, 10, 11, 12, 13], [0, 1, 2, 3, 4, 5, 6, 7, 8, 9, 10, 11, 12, 13, 14], [0, 1, 2, 3, 4, 5, 6, 7, 8, 9, 10, 11, 12, 13, 14, 15, 17], [0, 1, 2, 3, 4, 5, 6, 7, 8, 9, 10, 11, 12, 13, 14, 15, 16, 17, 18]] [12] 210 [] (List.nil_sublist _) mixed rfl (by decide) ?_
  refine RW.pure rfl rfl (fun _ => rfl) (fun V hV => det_move) (fun _ _ _ => rfl) ?_
  dsimp only [put, List.set, ev, nth, List.nil_append, List.cons_append, md, Nat.reducePow, Nat.reduceAdd, Nat.reduceMul]
  refine RW.pure rfl rfl (fun _ => rfl) (fun V hV => det_move) (fun _ _ _ => rfl) ?_
  dsimp only [put, List.set, ev, nth, List.nil_append, List.cons_append, md, Nat.reducePow, Nat.reduceAdd, Nat.reduceMul]
  refine RW.pure rfl rfl (fun _ => rfl) (fun V hV => det_idxS0 Try.underlying37 Try.sizeOf39 rfl rfl (rfl) (by omega)) (fun _ _ _ => rfl) ?_
  dsimp only [put, List.set, ev, nth, List.nil_append, List.cons_append, md, Nat.reducePow, Nat.reduceAdd, Nat.reduceMul]
  refine RW.det [] rfl rfl rfl rfl (fun _ => rfl) (fun V hV => Det.rel (det_load 0 Try.isAgg39 rfl rfl (hrl _ (by omega)))) (fun _ _ _ => rfl) ?_
  dsimp only [put, List.set, ev, nth, List.nil_append, List.cons_append, md, Nat.reducePow, Nat.reduceAdd, Nat.reduceMul]
  refine RW.pure rfl rfl (fun _ => rfl) (fun V hV => det_move) (fun _ _ _ => rfl) ?_
  dsimp only [put, List.set, ev, nth, List.nil_append, List.cons_append, md, Nat.reducePow, Nat.reduceAdd, Nat.reduceMul]
  refine RW.pure rfl rfl (fun _ => rfl) (fun V hV => det_move) (fun _ _ _ => rfl) ?_
  dsimp only [put, List.set, ev, nth, List.nil_append, List.cons_append, md, Nat.reducePow, Nat.reduceAdd, Nat.reduceMul]
  refine RW.pure rfl rfl (fun _ => rfl) (fun V hV => det_idxS0 Try.underlying37 Try.sizeOf39 rfl rfl (rfl) (by omega)) (fun _ _ _ => rfl) ?_
  dsimp only [put, List.set, ev, nth, List.nil_append, List.cons_append, md, Nat.reducePow, Nat.reduceAdd, Nat.reduceMul]
  refine RW.det [] rfl rfl rfl rfl (fun _ => rfl) (fun V hV => Det.rel (det_load 0 Try.isAgg39 rfl rfl (hrl _ (by omega)))) (fun _ _ _ => rfl) ?_
  dsimp only [put, List.set, ev, nth, List.nil_append, List.cons_append, md, Nat.reducePow, Nat.reduceAdd, Nat.reduceMul]
  refine RW.pure rfl rfl (fun _ => rfl) (fun V hV => det_move) (fun _ _ _ => rfl) ?_
  dsimp only [put, List.set, ev, nth, List.nil_append, List.cons_append, md, Nat.reducePow, Nat.reduceAdd, Nat.reduceMul]
  refine RW.pure rfl rfl (fun _ => rfl) (fun V hV => det_idxS0 (j := 0) Try.underlying37 Try.sizeOf39 rfl rfl (rfl) (by omega)) (fun _ _ _ => rfl) ?_
  dsimp only [put, List.set, ev, nth, List.nil_append, List.cons_append, md, Nat.reducePow, Nat.reduceAdd, Nat.reduceMul]
  refine RW.det [] rfl rfl rfl rfl (fun _ => rfl) (fun V hV => Det.rel (det_load 0 Try.isAgg39 rfl rfl (hrl _ (by omega)))) (fun _ _ _ => rfl) ?_
  dsimp only [put, List.set, ev, nth, List.nil_append, List.cons_append, md, Nat.reducePow, Nat.reduceAdd, Nat.reduceMul]
  refine RW.rel' [] rfl rfl rfl rfl (fun _ => rfl) rfl (fun V hV => rel_lit (c := #[pS K a, .pointer none, pS K b, pS K 0]) Try.underlying37 Try.zeroValue39 Try.sizeOf39 (by decide) (by decide) (by kernel_rfl)) (fun _ _ _ _ _ h => h) ?_
  dsimp only [put, List.set, ev, nth, List.nil_append, List.cons_append, md, Nat.reducePow, Nat.reduceAdd, Nat.reduceMul]
  refine RW.tail' (R0 := fun _ v m' => ∃ m1, (FirstR 3 K X X lv a b v m1) ∧ m' = (some rb, .cells cl 39 (0, 0)) :: (some rb2, .cells cw 42 (0, 0)) :: (some b2, .cells #[.int .i64 op, .int .i64 d1, .int .i64 d2, .int .i64 d3] 47 (0, 0)) :: (m1 ++ m0)) (B := fun V => _ ++ flat [11] V) rfl rfl rfl rfl (fun _ => rfl) (fun V hV => by
        have e11p : (V 11).1 = .slice (some ⟨blkS (V 11).1, 0, none⟩) 4 4 := IsSl.ptr (hV 11 (by decide) _ rfl)
        have e11m : (V 11).2 = _ := IsSl.mem (hV 11 (by decide) _ rfl)
        simp only [flat_cons, flat_nil, List.append_nil, e11m]
        exact chg_first [_, _, _] _ hM ha hb rfl e11p rfl) (fun _ _ _ _ _ h => h) (fun V hV v m' h => by obtain ⟨_, _, rfl⟩ := h; exact (List.nil_sublist _)) ?_
  dsimp only [put, List.set, ev, nth, List.nil_append, List.cons_append, md, Nat.reducePow, Nat.reduceAdd, Nat.reduceMul]
  refine RW.pure rfl rfl (fun _ => rfl) (fun V hV => det_move) (fun V V' hV => by first | rfl | (dsimp only [ev, nth]; simp only [hV 12 (by decide)])) ?_
  dsimp only [put, List.set, ev, nth, List.nil_append, List.cons_append, md, Nat.reducePow, Nat.reduceAdd, Nat.reduceMul]
  refine RW.pure rfl rfl (fun _ => rfl) (fun V hV => det_extractV (by obtain ⟨_, ⟨i, x, ok, _, h, _⟩, _⟩ := hV 12 (by decide) _ rfl; exact ⟨_, h, by simp⟩)) (fun V V' hV => by first | rfl | (dsimp only [ev, nth]; simp only [hV 12 (by decide)])) ?_
  dsimp only [put, List.set, ev, nth, List.nil_append, List.cons_append, md, Nat.reducePow, Nat.reduceAdd, Nat.reduceMul]
  refine RW.pure rfl rfl (fun _ => rfl) (fun V hV => det_extractV (by obtain ⟨_, ⟨i, x, ok, _, h, _⟩, _⟩ := hV 12 (by decide) _ rfl; exact ⟨_, h, by simp⟩)) (fun V V' hV => by first | rfl | (dsimp only [ev, nth]; simp only [hV 12 (by decide)])) ?_
  dsimp only [put, List.set, ev, nth, List.nil_append, List.cons_append, md, Nat.reducePow, Nat.reduceAdd, Nat.reduceMul]
  refine RW.pure rfl rfl (fun _ => rfl) (fun V hV => det_extractV (by obtain ⟨_, ⟨i, x, ok, _, h, _⟩, _⟩ := hV 12 (by decide) _ rfl; exact ⟨_, h, by simp⟩)) (fun V V' hV => by first | rfl | (dsimp only [ev, nth]; simp only [hV 12 (by decide)])) ?_
  dsimp only [put, List.set, ev, nth, List.nil_append, List.cons_append, md, Nat.reducePow, Nat.reduceAdd, Nat.reduceMul]
  refine RW.pure rfl rfl (fun _ => rfl) (fun V hV => det_assign) (fun V V' hV => by first | rfl | (dsimp only [ev, nth]; simp only [hV 12 (by decide)])) ?_
  dsimp only [put, List.set, ev, nth, List.nil_append, List.cons_append, md, Nat.reducePow, Nat.reduceAdd, Nat.reduceMul]
  refine RW.pure rfl rfl (fun _ => rfl) (fun V hV => det_assign) (fun V V' hV => by first | rfl | (dsimp only [ev, nth]; simp only [hV 12 (by decide)])) ?_
  dsimp only [put, List.set, ev, nth, List.nil_append, List.cons_append, md, Nat.reducePow, Nat.reduceAdd, Nat.reduceMul]
  refine RW.pure rfl rfl (fun _ => rfl) (fun V hV => det_assign) (fun V V' hV => by first | rfl | (dsimp only [ev, nth]; simp only [hV 12 (by decide)])) ?_
  dsimp only [put, List.set, ev, nth, List.nil_append, List.cons_append, md, Nat.reducePow, Nat.reduceAdd, Nat.reduceMul]
  refine RW.done (fun V => (V 12).2) rfl rfl (fun _ => rfl) (fun V hV => ?_)
  obtain ⟨bl11, hp11, hq11⟩ : IsSl _ _ _ (V 11).1 (V 11).2 := hV 11 _ rfl
  obtain ⟨MF, ⟨fi, fx, fok, X1, hv12, hMF, hF⟩, ht12⟩ := hV 12 _ rfl
  have hF : FirstC X a b fi fx fok X1 := hF
  have hq := fq_lt ha hb
  simp only [hp11, hq11, hv12, tg3_0, tg3_1, tg3_2, ht12, List.append_nil, flat_cons, flat_nil]
  try simp only [flat_nil, List.append_nil]
  try dsimp only [put, blk, flat_nil, List.append_nil, List.append, List.eraseIdx, List.set, ev, nth, List.nil_append, List.cons_append, md, Nat.reducePow, Nat.reduceAdd, Nat.reduceMul]
  clear hV ht12
  refine WC_seq ?_
  refine WC_seq ?_
  refine WC_region ?_
  refine WL_det rfl (det_move) ?_
  dsimp only [put, List.take, List.drop, List.set, ev, nth, List.nil_append, List.cons_append, md, Nat.reducePow, Nat.reduceAdd, Nat.reduceMul]
  refine WL_det rfl (det_move) ?_
  dsimp only [put, List.take, List.drop, List.set, ev, nth, List.nil_append, List.cons_append, md, Nat.reducePow, Nat.reduceAdd, Nat.reduceMul]
  refine WL_relAt 3 rfl (rel_lit (c := (arr .i64 4 (fq a b))) Try.underlying43 Try.zeroValue3 Try.sizeOf3 (by decide) (by decide) (by kernel_rfl)) ?_
  rintro _ _ ⟨b3, rfl, rfl⟩
  dsimp only [put, List.take, List.drop, List.set, ev, nth, List.nil_append, List.cons_append, md, Nat.reducePow, Nat.reduceAdd, Nat.reduceMul]
  refine WL_det rfl (det_len Try.underlying43 rfl) ?_
  dsimp only [put, List.take, List.drop, List.set, ev, nth, List.nil_append, List.cons_append, md, Nat.reducePow, Nat.reduceAdd, Nat.reduceMul]
  refine WL_det rfl (det_move) ?_
  dsimp only [put, List.take, List.drop, List.set, ev, nth, List.nil_append, List.cons_append, md, Nat.reducePow, Nat.reduceAdd, Nat.reduceMul]
  refine WL_nil ?_
  refine WC_block ?_
  refine WC_loopF (ι := Nat × Mem) [173, 174, 175, 176, 20, 21, 177, 178, 180, 181, 182, 183, 184, 179, 185, 186, 22, 23, 187, 188, 189, 190, 191, 192, 193, 194, 195, 196, 197, 198, 6, 199] (fun x => [(172, vn .i64 (x.1))]) (fun x => (some rb, .cells cl 39 (0, 0)) :: (some rb2, .cells cw 42 (0, 0)) :: (some b2, .cells #[.int .i64 op, .int .i64 d1, .int .i64 d2, .int .i64 d3] 47 (0, 0)) :: (some b3, .cells (arr .i64 4 (fq a b)) 3 (0, 0)) :: (x.2 ++ m0)) (fun x => x.1 ≤ 4 ∧ (∀ j, j < x.1 → j ≠ 1 → X (fq a b j) = []) ∧ ∃ lv, BMl 3 K X1 X lv x.2) (fun x => 4 - x.1) (0, MF) ?_ ?_ ?_ ?_
  · rfl
  · rfl
  · exact ⟨Nat.zero_le _, fun j hj => absurd hj (Nat.not_lt_zero _), _, hMF⟩
  · rintro ⟨k, M⟩ g' ⟨hk, hall, lv, hM⟩
    dsimp only [setAll, setG, setM, List.set]
    dsimp only at hk hall hM
    refine WC_seq ?_
    refine WC_region ?_
    refine WL_det rfl (det_lss rfl rfl) ?_
    dsimp only [put, List.take, List.drop, List.set, ev, nth, List.nil_append, List.cons_append, md, Nat.reducePow, Nat.reduceAdd, Nat.reduceMul]
    refine WL_nil ?_
    refine WC_seq ?_
    refine WC_cond rfl (fun hc4 => ?_) (fun hc4 => ?_)
    · have hc4 := of_decide_eq_true hc4
      refine WC_skip ?_
      refine WC_seq ?_
      refine WC_block ?_
      refine WC_seq ?_
      refine WC_region ?_
      refine WL_det rfl (det_move) ?_
      dsimp only [put, List.take, List.drop, List.set, ev, nth, List.nil_append, List.cons_append, md, Nat.reducePow, Nat.reduceAdd, Nat.reduceMul]
      refine WL_det rfl (det_idxS0 Try.underlying43 Try.sizeOf3 rfl rfl (rfl) (by omega)) ?_
      dsimp only [put, List.take, List.drop, List.set, ev, nth, List.nil_append, List.cons_append, md, Nat.reducePow, Nat.reduceAdd, Nat.reduceMul]
      refine WL_det rfl (det_loadA 3 Try.isAgg3 rfl rfl (by omega)) ?_
      dsimp only [put, List.take, List.drop, List.set, ev, nth, List.nil_append, List.cons_append, md, Nat.reducePow, Nat.reduceAdd, Nat.reduceMul]
      refine WL_det rfl (det_assign) ?_
      dsimp only [put, List.take, List.drop, List.set, ev, nth, List.nil_append, List.cons_append, md, Nat.reducePow, Nat.reduceAdd, Nat.reduceMul]
      refine WL_det rfl (det_assign) ?_
      dsimp only [put, List.take, List.drop, List.set, ev, nth, List.nil_append, List.cons_append, md, Nat.reducePow, Nat.reduceAdd, Nat.reduceMul]
      refine WL_nil ?_
      refine WC_seq ?_
      refine WC_seq ?_
      refine WC_region ?_
      refine WL_det rfl (det_move) ?_
      dsimp only [put, List.take, List.drop, List.set, ev, nth, List.nil_append, List.cons_append, md, Nat.reducePow, Nat.reduceAdd, Nat.reduceMul]
      refine WL_det rfl (det_eql (q := 1) rfl rfl) ?_
      dsimp only [put, List.take, List.drop, List.set, ev, nth, List.nil_append, List.cons_append, md, Nat.reducePow, Nat.reduceAdd, Nat.reduceMul]
      refine WL_nil ?_
      refine WC_cond rfl (fun hc5 => ?_) (fun hc5 => ?_)
      · have hc5 := of_decide_eq_true hc5
        have hM1 := hM
        have he : k ≠ 1 → X (fq a b k) = [] := fun h => absurd hc5 h
        refine WC_exit ?_
        refine inB_same ?_
        refine WC_region ?_
        refine WL_det rfl (det_addi (q := 1) rfl rfl (by omega)) ?_
        dsimp only [put, List.take, List.drop, List.set, ev, nth, List.nil_append, List.cons_append, md, Nat.reducePow, Nat.reduceAdd, Nat.reduceMul]
        refine WL_det rfl (det_move) ?_
        dsimp only [put, List.take, List.drop, List.set, ev, nth, List.nil_append, List.cons_append, md, Nat.reducePow, Nat.reduceAdd, Nat.reduceMul]
        refine WL_nil ?_
        refine ⟨(k + 1, M), ?_, ?_, ?_, ?_⟩
        · rfl
        · rfl
        · exact ⟨by dsimp only; omega, fun j hj hj1 => by rcases Nat.lt_succ_iff_lt_or_eq.1 hj with h | rfl; exact hall j h hj1; exact he hj1, _, hM1⟩
        · dsimp only; omega
      · have hc5 := of_decide_eq_false hc5
        refine WC_skip ?_
        refine WC_seq ?_
        refine WC_region ?_
        refine WL_det rfl (det_move) ?_
        dsimp only [put, List.take, List.drop, List.set, ev, nth, List.nil_append, List.cons_append, md, Nat.reducePow, Nat.reduceAdd, Nat.reduceMul]
        refine WL_det rfl (det_move) ?_
        dsimp only [put, List.take, List.drop, List.set, ev, nth, List.nil_append, List.cons_append, md, Nat.reducePow, Nat.reduceAdd, Nat.reduceMul]
        refine WL_det rfl (det_idxS0 Try.underlying38 Try.sizeOf42 rfl rfl (rfl) (hq k)) ?_
        dsimp only [put, List.take, List.drop, List.set, ev, nth, List.nil_append, List.cons_append, md, Nat.reducePow, Nat.reduceAdd, Nat.reduceMul]
        refine WL_det rfl (det_load 1 Try.isAgg42 rfl rfl (hrw _ (hq k))) ?_
        dsimp only [put, List.take, List.drop, List.set, ev, nth, List.nil_append, List.cons_append, md, Nat.reducePow, Nat.reduceAdd, Nat.reduceMul]
        refine WL_chg rfl (Chg_callT [_, _, _, _] _ _ rfl Try.call46 rfl (fun w mm hw => rtakeB hM (hq k) w mm hw)) ?_
        rintro _ _ ⟨M, ⟨rfl, lv1, hM1⟩, rfl⟩
        dsimp only [put, setM, List.zip, List.zipWith, List.take, List.drop, List.append_nil, List.set, ev, nth, List.nil_append, List.cons_append, md, Nat.reducePow, Nat.reduceAdd, Nat.reduceMul]
        refine WL_det rfl (det_move) ?_
        dsimp only [put, List.take, List.drop, List.set, ev, nth, List.nil_append, List.cons_append, md, Nat.reducePow, Nat.reduceAdd, Nat.reduceMul]
        refine WL_det rfl (det_extract rfl rfl) ?_
        dsimp only [put, List.take, List.drop, List.set, ev, nth, List.nil_append, List.cons_append, md, Nat.reducePow, Nat.reduceAdd, Nat.reduceMul]
        refine WL_det rfl (det_extract rfl rfl) ?_
        dsimp only [put, List.take, List.drop, List.set, ev, nth, List.nil_append, List.cons_append, md, Nat.reducePow, Nat.reduceAdd, Nat.reduceMul]
        refine WL_det rfl (det_assign) ?_
        dsimp only [put, List.take, List.drop, List.set, ev, nth, List.nil_append, List.cons_append, md, Nat.reducePow, Nat.reduceAdd, Nat.reduceMul]
        refine WL_det rfl (det_assign) ?_
        dsimp only [put, List.take, List.drop, List.set, ev, nth, List.nil_append, List.cons_append, md, Nat.reducePow, Nat.reduceAdd, Nat.reduceMul]
        refine WL_nil ?_
        refine WC_seq ?_
        refine WC_region ?_
        refine WL_det rfl (det_move) ?_
        dsimp only [put, List.take, List.drop, List.set, ev, nth, List.nil_append, List.cons_append, md, Nat.reducePow, Nat.reduceAdd, Nat.reduceMul]
        refine WL_nil ?_
        refine WC_cond rfl (fun hc6 => ?_) (fun hc6 => ?_)
        · have hne : X (fq a b k) ≠ [] := by intro h; rw [h] at hc6; simp at hc6
          have hXq := hX _ (hq k)
          obtain ⟨rfl, rfl, rfl, rfl⟩ := first_found hF (by omega) hc5 hall hne
          refine WC_seq ?_
          refine WC_region ?_
          refine WL_det rfl (det_move) ?_
          dsimp only [put, List.take, List.drop, List.set, ev, nth, List.nil_append, List.cons_append, md, Nat.reducePow, Nat.reduceAdd, Nat.reduceMul]
          refine WL_det rfl (det_move) ?_
          dsimp only [put, List.take, List.drop, List.set, ev, nth, List.nil_append, List.cons_append, md, Nat.reducePow, Nat.reduceAdd, Nat.reduceMul]
          refine WL_detG rfl (det_move) ?_
          dsimp only [put, List.take, List.drop, List.set, ev, nth, List.nil_append, List.cons_append, md, Nat.reducePow, Nat.reduceAdd, Nat.reduceMul]
          refine WL_detG rfl (det_move) ?_
          dsimp only [put, List.take, List.drop, List.set, ev, nth, List.nil_append, List.cons_append, md, Nat.reducePow, Nat.reduceAdd, Nat.reduceMul]
          refine WL_detG rfl (Det.bv true (det_eql rfl rfl) (by simp)) ?_
          dsimp only [put, List.take, List.drop, List.set, ev, nth, List.nil_append, List.cons_append, md, Nat.reducePow, Nat.reduceAdd, Nat.reduceMul]
          refine WL_det rfl (det_pick_true rfl) ?_
          dsimp only [put, List.take, List.drop, List.set, ev, nth, List.nil_append, List.cons_append, md, Nat.reducePow, Nat.reduceAdd, Nat.reduceMul]
          refine WL_det rfl (det_move) ?_
          dsimp only [put, List.take, List.drop, List.set, ev, nth, List.nil_append, List.cons_append, md, Nat.reducePow, Nat.reduceAdd, Nat.reduceMul]
          refine WL_detG rfl (det_move) ?_
          dsimp only [put, List.take, List.drop, List.set, ev, nth, List.nil_append, List.cons_append, md, Nat.reducePow, Nat.reduceAdd, Nat.reduceMul]
          refine WL_detG rfl (det_move) ?_
          dsimp only [put, List.take, List.drop, List.set, ev, nth, List.nil_append, List.cons_append, md, Nat.reducePow, Nat.reduceAdd, Nat.reduceMul]
          refine WL_detG rfl (Det.bv true (det_eqlz rfl rfl) (by simp)) ?_
          dsimp only [put, List.take, List.drop, List.set, ev, nth, List.nil_append, List.cons_append, md, Nat.reducePow, Nat.reduceAdd, Nat.reduceMul]
          refine WL_det rfl (det_pick_true rfl) ?_
          dsimp only [put, List.take, List.drop, List.set, ev, nth, List.nil_append, List.cons_append, md, Nat.reducePow, Nat.reduceAdd, Nat.reduceMul]
          refine WL_det rfl (det_assign) ?_
          dsimp only [put, List.take, List.drop, List.set, ev, nth, List.nil_append, List.cons_append, md, Nat.reducePow, Nat.reduceAdd, Nat.reduceMul]
          refine WL_nil ?_
          refine WC_ret ?_
          refine inB_ret ?_
          refine inB_ret ?_
          refine fin_tmp Try.results20 rfl (_) (.cons_cons _ (.cons_cons _ (.cons _ (.cons _ (List.Sublist.refl _))))) ?_
          exact ⟨_, ⟨rfl, _, lv1, up_len hX _ (by rw [List.length_tail]; omega), hM1⟩, rfl⟩
        · have he0 : X (fq a b k) = [] := by cases h : X (fq a b k) <;> simp_all
          have he : k ≠ 1 → X (fq a b k) = [] := fun _ => he0
          rw [he0, List.tail_nil, ← he0, up_eta] at hM1
          refine WC_skip ?_
          refine WC_region ?_
          refine WL_det rfl (det_addi (q := 1) rfl rfl (by omega)) ?_
          dsimp only [put, List.take, List.drop, List.set, ev, nth, List.nil_append, List.cons_append, md, Nat.reducePow, Nat.reduceAdd, Nat.reduceMul]
          refine WL_det rfl (det_move) ?_
          dsimp only [put, List.take, List.drop, List.set, ev, nth, List.nil_append, List.cons_append, md, Nat.reducePow, Nat.reduceAdd, Nat.reduceMul]
          refine WL_nil ?_
          refine ⟨(k + 1, M), ?_, ?_, ?_, ?_⟩
          · rfl
          · rfl
          · exact ⟨by dsimp only; omega, fun j hj hj1 => by rcases Nat.lt_succ_iff_lt_or_eq.1 hj with h | rfl; exact hall j h hj1; exact he hj1, _, hM1⟩
          · dsimp only; omega
    · have hc4 := of_decide_eq_false hc4
      obtain ⟨rfl, rfl, rfl, rfl⟩ := first_none hF (fun j hj => hall j (by omega))
      refine WC_exit ?_
      refine inB_same ?_
      refine WC_seq ?_
      refine WC_region ?_
      refine WL_det rfl (det_move) ?_
      dsimp only [put, List.take, List.drop, List.set, ev, nth, List.nil_append, List.cons_append, md, Nat.reducePow, Nat.reduceAdd, Nat.reduceMul]
      refine WL_det rfl (det_not rfl) ?_
      dsimp only [put, List.take, List.drop, List.set, ev, nth, List.nil_append, List.cons_append, md, Nat.reducePow, Nat.reduceAdd, Nat.reduceMul]
      refine WL_det rfl (det_move) ?_
      dsimp only [put, List.take, List.drop, List.set, ev, nth, List.nil_append, List.cons_append, md, Nat.reducePow, Nat.reduceAdd, Nat.reduceMul]
      refine WL_detG rfl (det_move) ?_
      dsimp only [put, List.take, List.drop, List.set, ev, nth, List.nil_append, List.cons_append, md, Nat.reducePow, Nat.reduceAdd, Nat.reduceMul]
      refine WL_detG rfl (Det.bv true (det_eql (q := 0) rfl rfl) (by simp)) ?_
      dsimp only [put, List.take, List.drop, List.set, ev, nth, List.nil_append, List.cons_append, md, Nat.reducePow, Nat.reduceAdd, Nat.reduceMul]
      refine WL_det rfl (det_pick_true rfl) ?_
      dsimp only [put, List.take, List.drop, List.set, ev, nth, List.nil_append, List.cons_append, md, Nat.reducePow, Nat.reduceAdd, Nat.reduceMul]
      refine WL_det rfl (det_move) ?_
      dsimp only [put, List.take, List.drop, List.set, ev, nth, List.nil_append, List.cons_append, md, Nat.reducePow, Nat.reduceAdd, Nat.reduceMul]
      refine WL_detG rfl (det_move) ?_
      dsimp only [put, List.take, List.drop, List.set, ev, nth, List.nil_append, List.cons_append, md, Nat.reducePow, Nat.reduceAdd, Nat.reduceMul]
      refine WL_detG rfl (Det.bv true (det_eqlz rfl rfl) (by simp)) ?_
      dsimp only [put, List.take, List.drop, List.set, ev, nth, List.nil_append, List.cons_append, md, Nat.reducePow, Nat.reduceAdd, Nat.reduceMul]
      refine WL_det rfl (det_pick_true rfl) ?_
      dsimp only [put, List.take, List.drop, List.set, ev, nth, List.nil_append, List.cons_append, md, Nat.reducePow, Nat.reduceAdd, Nat.reduceMul]
      refine WL_det rfl (det_assign) ?_
      dsimp only [put, List.take, List.drop, List.set, ev, nth, List.nil_append, List.cons_append, md, Nat.reducePow, Nat.reduceAdd, Nat.reduceMul]
      refine WL_nil ?_
      refine WC_ret ?_
      refine fin_tmp Try.results20 rfl (_) (.cons_cons _ (.cons_cons _ (.cons _ (.cons _ (List.Sublist.refl _))))) ?_
      exact ⟨_, ⟨rfl, _, lv, hX, hM⟩, rfl⟩

end Go.Proofs.Ytocmlaloafmfkaa
