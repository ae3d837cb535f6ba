/- What the claim of this folder needs of its texts, put together by a program of this claim. Conditions: none. -/
import Derived.Test.YtocmlaloafmfkaaBLO12
set_option linter.unusedSectionVars false
set_option linter.unusedSimpArgs false
set_option linter.unusedVariables false
set_option linter.unusedVariables false
namespace Go.Proofs.Ytocmlaloafmfkaa
open Go.MW
def ivA (D : List Int) : Array Value := (iv D).toArray
theorem ivA_at (D : List Int) {i : Nat} (h : i < D.length) : (ivA D)[i]? = some (.int .i64 (D.getD i 0)) := by
  rw [ivA, List.getElem?_toArray]; exact iv_at D h
theorem ivA_size (D : List Int) : (ivA D).size = D.length := by simp [ivA, iv]
theorem ivA_set (D : List Int) (i : Nat) (x : Int) : (ivA D).setIfInBounds i (.int .i64 x) = ivA (D.set i x) := by
  simp [ivA, iv, List.map_set]
theorem ivA_zero (n : Nat) : arr .i64 n (fun _ => 0) = ivA (List.replicate n 0) := by
  apply Array.ext_getElem?
  intro i
  by_cases h : i < n
  · rw [arr_get .i64 n _ h, ivA_at _ (by simpa using h)]
    simp [List.getD_eq_getElem?_getD, h]
  · rw [Array.getElem?_eq_none (by rw [arr_size]; omega), Array.getElem?_eq_none (by rw [ivA_size]; simp; omega)]
theorem ivA_rd {w0 w : World} {m : Mem} (hw : Has w0 m w) (i : Nat) {b c : Nat} {D : List Int} {n : Nat} (hm : m[i]? = some (some b, .cells (ivA D) 3 (0, 0))) (hn : D.length = n) : RdL w (iv D) (.slice (some ⟨b, 0, none⟩) n c) := by
  refine ⟨_, c, b, 0, by rw [iv_len, hn], fun _ => rfl, fun j hj => ?_⟩
  rw [iv_len] at hj
  rw [Nat.zero_add, iv_at D hj]
  simp [World.cell?, hw.at i hm, ivA_at D hj]
def incL (D : List Int) (l : List Nat) : List Int := l.foldl (fun D m => D.set m (D.getD m 0 + 1)) D
def decL (D : List Int) (l : List Nat) : List Int := l.foldl (fun D m => D.set m (D.getD m 0 - 1)) D
theorem incL_len (l : List Nat) : ∀ D : List Int, (incL D l).length = D.length := by
  unfold incL
  induction l with
  | nil => intro D; rfl
  | cons x l ih => intro D; rw [List.foldl_cons, ih, List.length_set]
theorem decL_len (l : List Nat) : ∀ D : List Int, (decL D l).length = D.length := by
  unfold decL
  induction l with
  | nil => intro D; rfl
  | cons x l ih => intro D; rw [List.foldl_cons, ih, List.length_set]
theorem incL_step (D : List Int) {l : List Nat} {q : Nat} (h : q < l.length) : incL D (l.take (q + 1)) = (incL D (l.take q)).set (l.getD q 0) ((incL D (l.take q)).getD (l.getD q 0) 0 + 1) := by
  unfold incL
  rw [List.take_succ_eq_append_getElem h, List.foldl_append, List.getD_eq_getElem?_getD (l := l), List.getElem?_eq_getElem h]
  rfl
theorem decL_step (D : List Int) {l : List Nat} {q : Nat} (h : q < l.length) : decL D (l.take (q + 1)) = (decL D (l.take q)).set (l.getD q 0) ((decL D (l.take q)).getD (l.getD q 0) 0 - 1) := by
  unfold decL
  rw [List.take_succ_eq_append_getElem h, List.foldl_append, List.getD_eq_getElem?_getD (l := l), List.getElem?_eq_getElem h]
  rfl
def BdL (a b : Int) (D : List Int) : Prop := ∀ i, a ≤ D.getD i 0 ∧ D.getD i 0 ≤ b
theorem BdL.set {a b : Int} {D : List Int} (h : BdL a b D) {x : Int} (h1 : a ≤ x) (h2 : x ≤ b) (j : Nat) : BdL a b (D.set j x) := by
  intro i
  rw [List.getD_eq_getElem?_getD, List.getElem?_set]
  by_cases e : j = i
  · subst e
    rw [if_pos rfl]
    by_cases hl : j < D.length
    · rw [if_pos hl]; exact ⟨h1, h2⟩
    · have := h j
      rw [List.getD_eq_getElem?_getD, List.getElem?_eq_none (by omega)] at this
      rw [if_neg hl]; exact this
  · rw [if_neg e, ← List.getD_eq_getElem?_getD]; exact h i
theorem BdL.mono {a b a' b' : Int} {D : List Int} (h : BdL a b D) (h1 : a' ≤ a) (h2 : b ≤ b') : BdL a' b' D := fun i => ⟨by have := h i; omega, by have := h i; omega⟩
theorem incL_bd (l : List Nat) : ∀ {b : Int} {D : List Int}, BdL 0 b D → 0 ≤ b → BdL 0 (b + l.length) (incL D l) := by
  unfold incL
  induction l with
  | nil => intro b D h _; simpa using h
  | cons x l ih =>
    intro b D h hb
    rw [List.foldl_cons, List.length_cons]
    have := h x
    exact (ih ((h.mono (Int.le_refl _) (show b ≤ b + 1 by omega)).set (by omega) (by omega) x) (by omega)).mono (Int.le_refl _) (by omega)
theorem decL_bd (l : List Nat) : ∀ {a b : Int} {D : List Int}, BdL a b D → a ≤ 0 → BdL (a - l.length) b (decL D l) := by
  unfold decL
  induction l with
  | nil => intro a b D h _; simpa using h
  | cons x l ih =>
    intro a b D h hb
    rw [List.foldl_cons, List.length_cons]
    have := h x
    exact (ih ((h.mono (show a - 1 ≤ a by omega) (Int.le_refl _)).set (by omega) (by omega) x) (by omega)).mono (by omega) (Int.le_refl _)
/-- How many lead to each, of the first k rows. -/
def degA (O : Nat → List Nat) (n : Nat) : Nat → List Int
  | 0 => List.replicate n 0
  | k + 1 => incL (degA O n k) (O k)
theorem degA_len (O : Nat → List Nat) (n : Nat) : ∀ k, (degA O n k).length = n
  | 0 => by simp [degA]
  | k + 1 => by rw [degA, incL_len, degA_len O n k]
theorem degA_bd {O : Nat → List Nat} (hO : ∀ i, (O i).length ≤ 1000) (n : Nat) : ∀ k, BdL 0 (1000 * k : Nat) (degA O n k)
  | 0 => fun i => by
    rw [degA, List.getD_eq_getElem?_getD, List.getElem?_replicate]
    split <;> simp
  | k + 1 => (incL_bd (O k) (degA_bd hO n k) (by omega)).mono (Int.le_refl _) (by have := hO k; omega)
/-- The places, each ahead of what it leads to; f of them are still to come. -/
def ordR (O : Nat → List Nat) : Nat → List Int → List Nat → Option (List Nat)
  | 0, _, o => some o
  | f + 1, D, o => if 0 ∈ D then ordR O f (decL (D.set (D.idxOf 0) (-1)) (O (D.idxOf 0))) (o ++ [D.idxOf 0]) else none
def ordP (O : Nat → List Nat) (n : Nat) : Option (List Nat) := ordR O n (degA O n n) []
def outE {α : Type} [DecidableEq α] (es : List (α × α)) (i : Nat) : List Nat := match (nodesE es)[i]? with | some a => (succ es a).map (nodesE es).idxOf | none => []
theorem IsG.out {α : Type} [DecidableEq α] {es : List (α × α)} {N : List α} {O : Nat → List Nat} (h : IsG es N O) : O = outE es := by
  funext i
  unfold outE
  rw [← h.nodes]
  cases hx : N[i]? with
  | none => exact h.rest i (by simpa using hx)
  | some a => exact h.row i a hx
def ordL (N : List Int) (r : Option (List Nat)) : List Int × Bool := match r with | some o => (o.map fun i => N.getD i 0, true) | none => ([], false)
def ordE (es : List (Int × Int)) : List Int × Bool := ordL (nodesE es) (ordP (outE es) (nodesE es).length)

set_option maxRecDepth 100000 in
set_option maxHeartbeats 4000000 in
theorem order_spec (gb : Nat) (es : List (Int × Int)) (hes : es.length ≤ 200) (w : World) (hG : GW intK 103 gb es w) :
    Calls Try.prog 34 [.pointer (some ⟨gb, 0, none⟩)].toArray w (Post w (fun v m => ∃ v1 e1, v = .tuple #[v1, .bool (ordE es).2] ∧ RowO 3 (iv (ordE es).1) v1 e1 ∧ m = [e1])) := by
  obtain ⟨N, O, hGr, hG⟩ := hG
  have hG0 := hG
  obtain ⟨mb, nv0, ov, rv, hgb, hmb, hn, ho, hrow⟩ := hG
  have hn : RdL w (iv N) nv0 := hn
  have hnl := nodes_len es
  have hN : N.length ≤ 1000 := by rw [hGr.nodes]; omega
  have hO : ∀ i, (O i).length ≤ 1000 := fun i => by have := hGr.olen i; omega
  have hOm : ∀ i, i < N.length → ∀ q, q < (O i).length → (O i).getD q 0 < N.length := fun i hi q hq => (hGr.getO (hGr.row i _ (List.getElem?_eq_getElem hi)) hq 0).1
  have hR : ordE es = ordL N (ordP O N.length) := by unfold ordE; rw [← hGr.nodes, ← hGr.out]
  refine calls_of_WC Try.func34 rfl ?_
  simp only [Try.ntmps34, List.length_cons, List.length_nil, Nat.reduceAdd, Nat.reduceSub, List.replicate, List.cons_append, List.nil_append]
  refine WC_seq ?_
  refine WC_region ?_
  refine WL_det rfl (det_assign) ?_
  dsimp only [put, List.set, ev, nth, List.nil_append, List.cons_append, md, Nat.reducePow, Nat.reduceAdd, Nat.reduceMul]
  refine WL_det rfl (det_assign) ?_
  dsimp only [put, List.set, ev, nth, List.nil_append, List.cons_append, md, Nat.reducePow, Nat.reduceAdd, Nat.reduceMul]
  refine WL_nil ?_
  refine WC_seq ?_
  refine WC_seq ?_
  refine WC_region ?_
  refine WL_det rfl (det_move) ?_
  dsimp only [put, List.set, ev, nth, List.nil_append, List.cons_append, md, Nat.reducePow, Nat.reduceAdd, Nat.reduceMul]
  refine WL_rel rfl (Rel_call rfl Try.call53 (fun w hw => isG_ok gb N O es.length hN hO w (hG0.far hw))) ?_
  rintro _ _ ⟨rfl, rfl⟩
  dsimp only [put, List.append_nil, List.set, ev, nth, List.nil_append, List.cons_append, md, Nat.reducePow, Nat.reduceAdd, Nat.reduceMul]
  refine WL_det rfl (det_not rfl) ?_
  dsimp only [put, List.set, ev, nth, List.nil_append, List.cons_append, md, Nat.reducePow, Nat.reduceAdd, Nat.reduceMul]
  refine WL_nil ?_
  refine WC_cond_false rfl ?_
  refine WC_skip ?_
  refine WC_seq ?_
  refine WC_region ?_
  refine WL_det rfl (det_move) ?_
  dsimp only [put, List.set, ev, nth, List.nil_append, List.cons_append, md, Nat.reducePow, Nat.reduceAdd, Nat.reduceMul]
  refine WL_det rfl (det_nilCheck rfl) ?_
  dsimp only [put, List.set, ev, nth, List.nil_append, List.cons_append, md, Nat.reducePow, Nat.reduceAdd, Nat.reduceMul]
  refine WL_det rfl (det_fieldAddr 1 Try.underlying103 rfl Try.sizeOf43 rfl) ?_
  dsimp only [put, List.set, ev, nth, List.nil_append, List.cons_append, md, Nat.reducePow, Nat.reduceAdd, Nat.reduceMul]
  refine WL_det rfl (det_loadFB Try.isAgg43 rfl hgb rfl) ?_
  dsimp only [put, List.set, ev, nth, List.nil_append, List.cons_append, md, Nat.reducePow, Nat.reduceAdd, Nat.reduceMul]
  refine WL_det rfl (det_lenR Try.underlying43 rfl (fun w hw => RdL.far hw hn) (iv_len N)) ?_
  dsimp only [put, List.set, ev, nth, List.nil_append, List.cons_append, md, Nat.reducePow, Nat.reduceAdd, Nat.reduceMul]
  refine WL_rel rfl (rel_make (n := N.length) Try.underlying43 ei3 rfl rfl (by omega) (by simp only [maxLen]; omega)) ?_
  rintro _ _ ⟨b0, rfl, rfl⟩
  dsimp only [put, List.set, ev, nth, List.nil_append, List.cons_append, md, Nat.reducePow, Nat.reduceAdd, Nat.reduceMul]
  refine WL_det rfl (det_assign) ?_
  dsimp only [put, List.set, ev, nth, List.nil_append, List.cons_append, md, Nat.reducePow, Nat.reduceAdd, Nat.reduceMul]
  refine WL_nil ?_
  rw [ivA_zero]
  refine WC_seq ?_
  refine WC_seq ?_
  refine WC_region ?_
  refine WL_det rfl (det_move) ?_
  dsimp only [put, List.set, ev, nth, List.nil_append, List.cons_append, md, Nat.reducePow, Nat.reduceAdd, Nat.reduceMul]
  refine WL_det rfl (det_nilCheck rfl) ?_
  dsimp only [put, List.set, ev, nth, List.nil_append, List.cons_append, md, Nat.reducePow, Nat.reduceAdd, Nat.reduceMul]
  refine WL_det rfl (det_fieldAddr 2 Try.underlying103 rfl Try.sizeOf101 rfl) ?_
  dsimp only [put, List.set, ev, nth, List.nil_append, List.cons_append, md, Nat.reducePow, Nat.reduceAdd, Nat.reduceMul]
  refine WL_det rfl (det_loadFB Try.isAgg101 rfl hgb rfl) ?_
  dsimp only [put, List.set, ev, nth, List.nil_append, List.cons_append, md, Nat.reducePow, Nat.reduceAdd, Nat.reduceMul]
  refine WL_det rfl (det_lenR Try.underlying101 rfl (fun w hw => RdL.far hw ho) (rvl_len rv N.length)) ?_
  dsimp only [put, List.set, ev, nth, List.nil_append, List.cons_append, md, Nat.reducePow, Nat.reduceAdd, Nat.reduceMul]
  refine WL_det rfl (det_move) ?_
  dsimp only [put, List.set, ev, nth, List.nil_append, List.cons_append, md, Nat.reducePow, Nat.reduceAdd, Nat.reduceMul]
  refine WL_nil ?_
  refine WC_block ?_
  refine WC_loopS (ι := Nat) [28, 29, 30, 6, 31, 32, 33, 34, 35, 36, 8, 37, 38, 39, 40, 41, 42, 43, 44] (fun k => [(27, vn .i64 (k))]) (fun k => [(0, (some b0, .cells (ivA (degA O N.length k)) 3 (0, 0)))]) (fun k => k ≤ N.length) (fun k => N.length - k) 0 ?_ ?_ ?_ ?_
  · rfl
  · rfl
  · exact Nat.zero_le _
  · rintro k g' hk
    dsimp only [setAll, setG, setM, List.set]
    refine WC_seq ?_
    refine WC_region ?_
    refine WL_det rfl (det_lss rfl rfl) ?_
    dsimp only [put, List.set, ev, nth, List.nil_append, List.cons_append, md, Nat.reducePow, Nat.reduceAdd, Nat.reduceMul]
    refine WL_nil ?_
    refine WC_seq ?_
    refine WC_cond rfl (fun hc1 => ?_) (fun hc1 => ?_)
    · have hc1 := of_decide_eq_true hc1
      refine WC_skip ?_
      refine WC_seq ?_
      refine WC_block ?_
      refine WC_seq ?_
      refine WC_region ?_
      refine WL_det rfl (det_idxR Try.underlying101 Try.sizeOf43 rfl rfl (rfl) (by rw [rvl_len]; omega) (fun w hw => RdL.far hw ho)) ?_
      dsimp only [put, List.set, ev, nth, List.nil_append, List.cons_append, md, Nat.reducePow, Nat.reduceAdd, Nat.reduceMul]
      refine WL_det rfl (det_loadR Try.isAgg43 rfl (fun w hw => RdL.far hw ho) (rvl_at rv N.length (by omega))) ?_
      dsimp only [put, List.set, ev, nth, List.nil_append, List.cons_append, md, Nat.reducePow, Nat.reduceAdd, Nat.reduceMul]
      refine WL_det rfl (det_assign) ?_
      dsimp only [put, List.set, ev, nth, List.nil_append, List.cons_append, md, Nat.reducePow, Nat.reduceAdd, Nat.reduceMul]
      refine WL_nil ?_
      refine WC_seq ?_
      refine WC_region ?_
      refine WL_det rfl (det_move) ?_
      dsimp only [put, List.set, ev, nth, List.nil_append, List.cons_append, md, Nat.reducePow, Nat.reduceAdd, Nat.reduceMul]
      refine WL_det rfl (det_lenR Try.underlying43 rfl (fun w hw => RdL.far hw (hrow k (by omega))) (nv_len (O k))) ?_
      dsimp only [put, List.set, ev, nth, List.nil_append, List.cons_append, md, Nat.reducePow, Nat.reduceAdd, Nat.reduceMul]
      refine WL_det rfl (det_move) ?_
      dsimp only [put, List.set, ev, nth, List.nil_append, List.cons_append, md, Nat.reducePow, Nat.reduceAdd, Nat.reduceMul]
      refine WL_nil ?_
      refine WC_block ?_
      refine WC_loopS (ι := Nat) [34, 35, 36, 8, 37, 38, 39, 40, 41, 42, 43] (fun q => [(33, vn .i64 (q))]) (fun q => [(0, (some b0, .cells (ivA (incL (degA O N.length k) ((O k).take q))) 3 (0, 0)))]) (fun q => q ≤ (O k).length) (fun q => (O k).length - q) 0 ?_ ?_ ?_ ?_
      · rfl
      · rfl
      · exact Nat.zero_le _
      · rintro q g'' hq
        dsimp only [setAll, setG, setM, List.set]
        refine WC_seq ?_
        refine WC_region ?_
        refine WL_det rfl (det_lss rfl rfl) ?_
        dsimp only [put, List.set, ev, nth, List.nil_append, List.cons_append, md, Nat.reducePow, Nat.reduceAdd, Nat.reduceMul]
        refine WL_nil ?_
        refine WC_seq ?_
        refine WC_cond rfl (fun hc2 => ?_) (fun hc2 => ?_)
        · have hc2 := of_decide_eq_true hc2
          have hOk := hO k
          have hm := hOm k (by omega) q hc2
          have hDl : (incL (degA O N.length k) ((O k).take q)).length = N.length := by rw [incL_len, degA_len]
          have hb := incL_bd ((O k).take q) (degA_bd hO N.length k) (by omega) ((O k).getD q 0)
          have htl : ((O k).take q).length ≤ 1000 := by rw [List.length_take]; have := hO k; omega
          refine WC_skip ?_
          refine WC_seq ?_
          refine WC_block ?_
          refine WC_seq ?_
          refine WC_region ?_
          refine WL_det rfl (det_idxR Try.underlying43 Try.sizeOf3 rfl rfl (rfl) (by rw [nv_len]; omega) (fun w hw => RdL.far hw (hrow k (by omega)))) ?_
          dsimp only [put, List.set, ev, nth, List.nil_append, List.cons_append, md, Nat.reducePow, Nat.reduceAdd, Nat.reduceMul]
          refine WL_det rfl (det_loadR Try.isAgg3 rfl (fun w hw => RdL.far hw (hrow k (by omega))) (nv_at (O k) (by omega))) ?_
          dsimp only [put, List.set, ev, nth, List.nil_append, List.cons_append, md, Nat.reducePow, Nat.reduceAdd, Nat.reduceMul]
          refine WL_det rfl (det_assign) ?_
          dsimp only [put, List.set, ev, nth, List.nil_append, List.cons_append, md, Nat.reducePow, Nat.reduceAdd, Nat.reduceMul]
          refine WL_nil ?_
          refine WC_region ?_
          refine WL_det rfl (det_move) ?_
          dsimp only [put, List.set, ev, nth, List.nil_append, List.cons_append, md, Nat.reducePow, Nat.reduceAdd, Nat.reduceMul]
          refine WL_det rfl (det_move) ?_
          dsimp only [put, List.set, ev, nth, List.nil_append, List.cons_append, md, Nat.reducePow, Nat.reduceAdd, Nat.reduceMul]
          refine WL_det rfl (det_idxS0 Try.underlying43 Try.sizeOf3 rfl rfl (rfl) (hm)) ?_
          dsimp only [put, List.set, ev, nth, List.nil_append, List.cons_append, md, Nat.reducePow, Nat.reduceAdd, Nat.reduceMul]
          refine WL_det rfl (det_load 0 Try.isAgg3 rfl rfl (ivA_at _ (by rw [hDl]; exact hm))) ?_
          dsimp only [put, List.set, ev, nth, List.nil_append, List.cons_append, md, Nat.reducePow, Nat.reduceAdd, Nat.reduceMul]
          refine WL_det rfl (det_addz rfl rfl rfl (by omega) (by omega)) ?_
          dsimp only [put, List.set, ev, nth, List.nil_append, List.cons_append, md, Nat.reducePow, Nat.reduceAdd, Nat.reduceMul]
          refine WL_det rfl (det_idxS0 Try.underlying43 Try.sizeOf3 rfl rfl (rfl) (hm)) ?_
          dsimp only [put, List.set, ev, nth, List.nil_append, List.cons_append, md, Nat.reducePow, Nat.reduceAdd, Nat.reduceMul]
          refine WL_chg rfl (chg_storeC 0 (c' := ivA ((incL (degA O N.length k) ((O k).take q)).set ((O k).getD q 0) ((incL (degA O N.length k) ((O k).take q)).getD ((O k).getD q 0) 0 + 1))) Try.sizeOf3 rfl rfl (by rw [ivA_size, hDl]; exact hm) rfl rfl (ivA_set _ _ _)) ?_
          rintro _ _ rfl
          rw [← incL_step _ hc2]
          dsimp only [put, List.set, ev, nth, List.nil_append, List.cons_append, md, Nat.reducePow, Nat.reduceAdd, Nat.reduceMul]
          refine WL_nil ?_
          refine WC_region ?_
          refine WL_det rfl (det_addi (q := 1) rfl rfl (by omega)) ?_
          dsimp only [put, List.set, ev, nth, List.nil_append, List.cons_append, md, Nat.reducePow, Nat.reduceAdd, Nat.reduceMul]
          refine WL_det rfl (det_move) ?_
          dsimp only [put, List.set, ev, nth, List.nil_append, List.cons_append, md, Nat.reducePow, Nat.reduceAdd, Nat.reduceMul]
          refine WL_nil ?_
          refine ⟨q + 1, ?_, ?_, ?_, ?_⟩
          · rfl
          · rfl
          · omega
          · omega
        · have hc2 := of_decide_eq_false hc2
          obtain rfl : q = (O k).length := by omega
          rw [List.take_length, show incL (degA O N.length k) (O k) = degA O N.length (k + 1) from rfl]
          refine WC_exit ?_
          refine inB_same ?_
          refine WC_region ?_
          refine WL_det rfl (det_addi (q := 1) rfl rfl (by omega)) ?_
          dsimp only [put, List.set, ev, nth, List.nil_append, List.cons_append, md, Nat.reducePow, Nat.reduceAdd, Nat.reduceMul]
          refine WL_det rfl (det_move) ?_
          dsimp only [put, List.set, ev, nth, List.nil_append, List.cons_append, md, Nat.reducePow, Nat.reduceAdd, Nat.reduceMul]
          refine WL_nil ?_
          refine ⟨k + 1, ?_, ?_, ?_, ?_⟩
          · rfl
          · rfl
          · omega
          · omega
    · have hc1 := of_decide_eq_false hc1
      obtain rfl : k = N.length := by omega
      refine WC_exit ?_
      refine inB_same ?_
      refine WC_seq ?_
      refine WC_region ?_
      refine WL_det rfl (det_assign) ?_
      dsimp only [put, List.set, ev, nth, List.nil_append, List.cons_append, md, Nat.reducePow, Nat.reduceAdd, Nat.reduceMul]
      refine WL_nil ?_
      refine WC_seq ?_
      refine WC_block ?_
      refine WC.addNone (.cells #[] 3 (0, 0)) ?_
      dsimp only [List.cons_append, List.nil_append]
      refine WC_loopS (ι := List Int × List Nat × Value × (Option Nat × Obj)) [45, 46, 47, 48, 49, 50, 51, 52, 53, 54, 10, 55, 56, 2, 3, 57, 58, 59, 60, 61, 62, 63, 64, 65, 66, 67, 68, 69, 70, 71, 72, 73, 74, 75, 76, 77, 78, 79, 80, 81, 12, 82, 83, 84, 85, 86, 87, 88] (fun x => [(9, x.2.2.1)]) (fun x => [(0, (some b0, .cells (ivA x.1) 3 (0, 0))), (1, x.2.2.2)]) (fun x => x.1.length = N.length ∧ x.2.1.length ≤ N.length ∧ BdL (-(1001 * x.2.1.length : Nat)) 1000000 x.1 ∧ RowO 3 (iv (x.2.1.map fun i => N.getD i 0)) x.2.2.1 x.2.2.2 ∧ ordR O (N.length - x.2.1.length) x.1 x.2.1 = ordP O N.length) (fun x => N.length - x.2.1.length) (degA O N.length N.length, [], .slice none 0 0, (none, .cells #[] 3 (0, 0))) ?_ ?_ ?_ ?_
      · rfl
      · rfl
      · exact ⟨degA_len _ _ _, Nat.zero_le _, (degA_bd hO N.length N.length).mono (by simp) (by omega), RowO.nil _ _, rfl⟩
      · rintro ⟨D, o, v1, e1⟩ g' ⟨hDl, hol, hB, h1, hre⟩
        dsimp only [setAll, setG, setM, List.set]
        dsimp only at hDl hol hB h1 hre
        refine WC_seq ?_
        refine WC_seq ?_
        refine WC_region ?_
        refine WL_det rfl (det_move) ?_
        dsimp only [put, List.set, ev, nth, List.nil_append, List.cons_append, md, Nat.reducePow, Nat.reduceAdd, Nat.reduceMul]
        refine WL_det rfl (det_lenR Try.underlying43 rfl (fun w hw => RowO.rd hw 1 rfl h1) (iv_len (o.map fun i => N.getD i 0))) ?_
        dsimp only [put, List.set, ev, nth, List.nil_append, List.cons_append, md, Nat.reducePow, Nat.reduceAdd, Nat.reduceMul]
        refine WL_det rfl (det_move) ?_
        dsimp only [put, List.set, ev, nth, List.nil_append, List.cons_append, md, Nat.reducePow, Nat.reduceAdd, Nat.reduceMul]
        refine WL_det rfl (det_nilCheck rfl) ?_
        dsimp only [put, List.set, ev, nth, List.nil_append, List.cons_append, md, Nat.reducePow, Nat.reduceAdd, Nat.reduceMul]
        refine WL_det rfl (det_fieldAddr 1 Try.underlying103 rfl Try.sizeOf43 rfl) ?_
        dsimp only [put, List.set, ev, nth, List.nil_append, List.cons_append, md, Nat.reducePow, Nat.reduceAdd, Nat.reduceMul]
        refine WL_det rfl (det_loadFB Try.isAgg43 rfl hgb rfl) ?_
        dsimp only [put, List.set, ev, nth, List.nil_append, List.cons_append, md, Nat.reducePow, Nat.reduceAdd, Nat.reduceMul]
        refine WL_det rfl (det_lenR Try.underlying43 rfl (fun w hw => RdL.far hw hn) (iv_len N)) ?_
        dsimp only [put, List.set, ev, nth, List.nil_append, List.cons_append, md, Nat.reducePow, Nat.reduceAdd, Nat.reduceMul]
        refine WL_det rfl (det_lss rfl rfl) ?_
        dsimp only [put, List.set, ev, nth, List.nil_append, List.cons_append, md, Nat.reducePow, Nat.reduceAdd, Nat.reduceMul]
        refine WL_nil ?_
        refine WC_cond rfl (fun hc3 => ?_) (fun hc3 => ?_)
        · have hc3 := of_decide_eq_true hc3
          rw [List.length_map] at hc3
          obtain ⟨f, hf⟩ : ∃ f, N.length - o.length = f + 1 := ⟨N.length - o.length - 1, by omega⟩
          rw [hf, ordR] at hre
          refine WC_skip ?_
          refine WC_block ?_
          refine WC_seq ?_
          refine WC_region ?_
          refine WL_det rfl (det_move) ?_
          dsimp only [put, List.set, ev, nth, List.nil_append, List.cons_append, md, Nat.reducePow, Nat.reduceAdd, Nat.reduceMul]
          refine WL_rel rfl (Rel_call rfl Try.call51 (fun w hw => indexI_spec D 0 _ (by omega) w (ivA_rd hw 0 rfl hDl))) ?_
          rintro _ _ ⟨rfl, rfl⟩
          dsimp only [put, List.append_nil, List.set, ev, nth, List.nil_append, List.cons_append, md, Nat.reducePow, Nat.reduceAdd, Nat.reduceMul]
          refine WL_det rfl (det_assign) ?_
          dsimp only [put, List.set, ev, nth, List.nil_append, List.cons_append, md, Nat.reducePow, Nat.reduceAdd, Nat.reduceMul]
          refine WL_nil ?_
          refine WC_seq ?_
          refine WC_seq ?_
          refine WC_region ?_
          refine WL_det rfl (det_move) ?_
          dsimp only [put, List.set, ev, nth, List.nil_append, List.cons_append, md, Nat.reducePow, Nat.reduceAdd, Nat.reduceMul]
          refine WL_det rfl (det_lssz rfl rfl) ?_
          dsimp only [put, List.set, ev, nth, List.nil_append, List.cons_append, md, Nat.reducePow, Nat.reduceAdd, Nat.reduceMul]
          refine WL_nil ?_
          refine WC_cond rfl (fun hc4 => ?_) (fun hc4 => ?_)
          · have hc4 := of_decide_eq_true hc4
            have hz : 0 ∉ D := fun h => by rw [idxI, if_pos h] at hc4; omega
            rw [if_neg hz] at hre
            have hfin : ordE es = ([], false) := by rw [hR, ← hre]; rfl
            refine WC_seq ?_
            refine WC_region ?_
            refine WL_det rfl (det_assign) ?_
            dsimp only [put, List.set, ev, nth, List.nil_append, List.cons_append, md, Nat.reducePow, Nat.reduceAdd, Nat.reduceMul]
            refine WL_det rfl (det_assign) ?_
            dsimp only [put, List.set, ev, nth, List.nil_append, List.cons_append, md, Nat.reducePow, Nat.reduceAdd, Nat.reduceMul]
            refine WL_nil ?_
            refine WC_ret ?_
            refine inB_ret ?_
            refine inB_ret ?_
            refine fin_tmp2 Try.results34 rfl rfl ([e1]) (.cons _ (List.Sublist.refl _)) ?_
            exact ⟨.slice none 0 0, e1, by rw [hfin]; rfl, by rw [hfin]; exact RowO.nil _ _, rfl⟩
          · have hc4 := of_decide_eq_false hc4
            have hz : 0 ∈ D := Classical.byContradiction fun h => hc4 (by rw [idxI, if_neg h]; omega)
            rw [if_pos hz] at hre
            rw [show idxI D 0 = ((D.idxOf 0 : Nat) : Int) from if_pos hz]
            have hi : D.idxOf 0 < N.length := hDl ▸ List.idxOf_lt_length_iff.2 hz
            generalize D.idxOf 0 = i at *
            have hBs : BdL (-(1001 * o.length + 1 : Nat)) 1000000 (D.set i (-1)) := (hB.mono (by omega) (Int.le_refl _)).set (by omega) (by omega) i
            refine WC_skip ?_
            refine WC_seq ?_
            refine WC_region ?_
            refine WL_det rfl (det_move) ?_
            dsimp only [put, List.set, ev, nth, List.nil_append, List.cons_append, md, Nat.reducePow, Nat.reduceAdd, Nat.reduceMul]
            refine WL_det rfl (det_move) ?_
            dsimp only [put, List.set, ev, nth, List.nil_append, List.cons_append, md, Nat.reducePow, Nat.reduceAdd, Nat.reduceMul]
            refine WL_det rfl (det_idxS0 (j := i) Try.underlying43 Try.sizeOf3 rfl rfl (rfl) (hi)) ?_
            dsimp only [put, List.set, ev, nth, List.nil_append, List.cons_append, md, Nat.reducePow, Nat.reduceAdd, Nat.reduceMul]
            refine WL_chg rfl (chg_storeC 0 (c' := ivA (D.set i (-1))) Try.sizeOf3 rfl rfl (by rw [ivA_size, hDl]; exact hi) rfl rfl (ivA_set _ _ _)) ?_
            rintro _ _ rfl
            dsimp only [put, List.set, ev, nth, List.nil_append, List.cons_append, md, Nat.reducePow, Nat.reduceAdd, Nat.reduceMul]
            refine WL_nil ?_
            refine WC_seq ?_
            refine WC_region ?_
            refine WL_det rfl (det_move) ?_
            dsimp only [put, List.set, ev, nth, List.nil_append, List.cons_append, md, Nat.reducePow, Nat.reduceAdd, Nat.reduceMul]
            refine WL_det rfl (det_move) ?_
            dsimp only [put, List.set, ev, nth, List.nil_append, List.cons_append, md, Nat.reducePow, Nat.reduceAdd, Nat.reduceMul]
            refine WL_det rfl (det_nilCheck rfl) ?_
            dsimp only [put, List.set, ev, nth, List.nil_append, List.cons_append, md, Nat.reducePow, Nat.reduceAdd, Nat.reduceMul]
            refine WL_det rfl (det_fieldAddr 1 Try.underlying103 rfl Try.sizeOf43 rfl) ?_
            dsimp only [put, List.set, ev, nth, List.nil_append, List.cons_append, md, Nat.reducePow, Nat.reduceAdd, Nat.reduceMul]
            refine WL_det rfl (det_loadFB Try.isAgg43 rfl hgb rfl) ?_
            dsimp only [put, List.set, ev, nth, List.nil_append, List.cons_append, md, Nat.reducePow, Nat.reduceAdd, Nat.reduceMul]
            refine WL_det rfl (det_move) ?_
            dsimp only [put, List.set, ev, nth, List.nil_append, List.cons_append, md, Nat.reducePow, Nat.reduceAdd, Nat.reduceMul]
            refine WL_det rfl (det_idxR (j := i) Try.underlying43 Try.sizeOf3 rfl rfl (rfl) (by rw [iv_len]; exact hi) (fun w hw => RdL.far hw hn)) ?_
            dsimp only [put, List.set, ev, nth, List.nil_append, List.cons_append, md, Nat.reducePow, Nat.reduceAdd, Nat.reduceMul]
            refine WL_det rfl (det_loadR Try.isAgg3 rfl (fun w hw => RdL.far hw hn) (iv_at N (hi))) ?_
            dsimp only [put, List.set, ev, nth, List.nil_append, List.cons_append, md, Nat.reducePow, Nat.reduceAdd, Nat.reduceMul]
            refine WL_rel rfl (rel_lit1 Try.underlying43 Try.zeroValue3 Try.sizeOf3 rfl rfl) ?_
            rintro _ _ ⟨bl, rfl, rfl⟩
            dsimp only [put, List.set, ev, nth, List.nil_append, List.cons_append, md, Nat.reducePow, Nat.reduceAdd, Nat.reduceMul]
            refine WL_chg rfl (chg_appendO1 1 2 rfl (by decide) (h1) rfl rfl rfl rfl Try.underlying43 ei3 rfl (by rw [iv_len, List.length_map]; omega) (by decide)) ?_
            rintro v69 _ ⟨e69, hr69, rfl⟩
            dsimp only [put, List.eraseIdx, List.set, ev, nth, List.nil_append, List.cons_append, md, Nat.reducePow, Nat.reduceAdd, Nat.reduceMul]
            rw [iv_snoc] at hr69
            rw [show (o.map fun i => N.getD i 0) ++ [N.getD i 0] = (o ++ [i]).map fun i => N.getD i 0 by simp] at hr69
            refine WL_det rfl (det_assign) ?_
            dsimp only [put, List.set, ev, nth, List.nil_append, List.cons_append, md, Nat.reducePow, Nat.reduceAdd, Nat.reduceMul]
            refine WL_nil ?_
            refine WC_seq ?_
            refine WC_region ?_
            refine WL_det rfl (det_move) ?_
            dsimp only [put, List.set, ev, nth, List.nil_append, List.cons_append, md, Nat.reducePow, Nat.reduceAdd, Nat.reduceMul]
            refine WL_det rfl (det_nilCheck rfl) ?_
            dsimp only [put, List.set, ev, nth, List.nil_append, List.cons_append, md, Nat.reducePow, Nat.reduceAdd, Nat.reduceMul]
            refine WL_det rfl (det_fieldAddr 2 Try.underlying103 rfl Try.sizeOf101 rfl) ?_
            dsimp only [put, List.set, ev, nth, List.nil_append, List.cons_append, md, Nat.reducePow, Nat.reduceAdd, Nat.reduceMul]
            refine WL_det rfl (det_loadFB Try.isAgg101 rfl hgb rfl) ?_
            dsimp only [put, List.set, ev, nth, List.nil_append, List.cons_append, md, Nat.reducePow, Nat.reduceAdd, Nat.reduceMul]
            refine WL_det rfl (det_move) ?_
            dsimp only [put, List.set, ev, nth, List.nil_append, List.cons_append, md, Nat.reducePow, Nat.reduceAdd, Nat.reduceMul]
            refine WL_det rfl (det_idxR (j := i) Try.underlying101 Try.sizeOf43 rfl rfl (rfl) (by rw [rvl_len]; exact hi) (fun w hw => RdL.far hw ho)) ?_
            dsimp only [put, List.set, ev, nth, List.nil_append, List.cons_append, md, Nat.reducePow, Nat.reduceAdd, Nat.reduceMul]
            refine WL_det rfl (det_loadR Try.isAgg43 rfl (fun w hw => RdL.far hw ho) (rvl_at rv N.length (hi))) ?_
            dsimp only [put, List.set, ev, nth, List.nil_append, List.cons_append, md, Nat.reducePow, Nat.reduceAdd, Nat.reduceMul]
            refine WL_det rfl (det_lenR Try.underlying43 rfl (fun w hw => RdL.far hw (hrow i hi)) (nv_len (O i))) ?_
            dsimp only [put, List.set, ev, nth, List.nil_append, List.cons_append, md, Nat.reducePow, Nat.reduceAdd, Nat.reduceMul]
            refine WL_det rfl (det_move) ?_
            dsimp only [put, List.set, ev, nth, List.nil_append, List.cons_append, md, Nat.reducePow, Nat.reduceAdd, Nat.reduceMul]
            refine WL_nil ?_
            refine WC_block ?_
            refine WC_loopS (ι := Nat) [79, 80, 81, 12, 82, 83, 84, 85, 86, 87, 88] (fun q => [(78, vn .i64 (q))]) (fun q => [(0, (some b0, .cells (ivA (decL (D.set i (-1)) ((O i).take q))) 3 (0, 0)))]) (fun q => q ≤ (O i).length) (fun q => (O i).length - q) 0 ?_ ?_ ?_ ?_
            · rfl
            · rfl
            · exact Nat.zero_le _
            · rintro q g'' hq
              dsimp only [setAll, setG, setM, List.set]
              refine WC_seq ?_
              refine WC_region ?_
              refine WL_det rfl (det_lss rfl rfl) ?_
              dsimp only [put, List.set, ev, nth, List.nil_append, List.cons_append, md, Nat.reducePow, Nat.reduceAdd, Nat.reduceMul]
              refine WL_nil ?_
              refine WC_seq ?_
              refine WC_cond rfl (fun hc5 => ?_) (fun hc5 => ?_)
              · have hc5 := of_decide_eq_true hc5
                have hOi := hO i
                have hm := hOm i hi q hc5
                have hEl : (decL (D.set i (-1)) ((O i).take q)).length = N.length := by rw [decL_len, List.length_set, hDl]
                have hb := decL_bd ((O i).take q) hBs (by omega) ((O i).getD q 0)
                have htl : ((O i).take q).length ≤ 1000 := by rw [List.length_take]; have := hO i; omega
                refine WC_skip ?_
                refine WC_seq ?_
                refine WC_block ?_
                refine WC_seq ?_
                refine WC_region ?_
                refine WL_det rfl (det_idxR Try.underlying43 Try.sizeOf3 rfl rfl (rfl) (by rw [nv_len]; omega) (fun w hw => RdL.far hw (hrow i hi))) ?_
                dsimp only [put, List.set, ev, nth, List.nil_append, List.cons_append, md, Nat.reducePow, Nat.reduceAdd, Nat.reduceMul]
                refine WL_det rfl (det_loadR Try.isAgg3 rfl (fun w hw => RdL.far hw (hrow i hi)) (nv_at (O i) (by omega))) ?_
                dsimp only [put, List.set, ev, nth, List.nil_append, List.cons_append, md, Nat.reducePow, Nat.reduceAdd, Nat.reduceMul]
                refine WL_det rfl (det_assign) ?_
                dsimp only [put, List.set, ev, nth, List.nil_append, List.cons_append, md, Nat.reducePow, Nat.reduceAdd, Nat.reduceMul]
                refine WL_nil ?_
                refine WC_region ?_
                refine WL_det rfl (det_move) ?_
                dsimp only [put, List.set, ev, nth, List.nil_append, List.cons_append, md, Nat.reducePow, Nat.reduceAdd, Nat.reduceMul]
                refine WL_det rfl (det_move) ?_
                dsimp only [put, List.set, ev, nth, List.nil_append, List.cons_append, md, Nat.reducePow, Nat.reduceAdd, Nat.reduceMul]
                refine WL_det rfl (det_idxS0 Try.underlying43 Try.sizeOf3 rfl rfl (rfl) (hm)) ?_
                dsimp only [put, List.set, ev, nth, List.nil_append, List.cons_append, md, Nat.reducePow, Nat.reduceAdd, Nat.reduceMul]
                refine WL_det rfl (det_load 0 Try.isAgg3 rfl rfl (ivA_at _ (by rw [hEl]; exact hm))) ?_
                dsimp only [put, List.set, ev, nth, List.nil_append, List.cons_append, md, Nat.reducePow, Nat.reduceAdd, Nat.reduceMul]
                refine WL_det rfl (det_subz rfl rfl rfl (by omega) (by omega)) ?_
                dsimp only [put, List.set, ev, nth, List.nil_append, List.cons_append, md, Nat.reducePow, Nat.reduceAdd, Nat.reduceMul]
                refine WL_det rfl (det_idxS0 Try.underlying43 Try.sizeOf3 rfl rfl (rfl) (hm)) ?_
                dsimp only [put, List.set, ev, nth, List.nil_append, List.cons_append, md, Nat.reducePow, Nat.reduceAdd, Nat.reduceMul]
                refine WL_chg rfl (chg_storeC 0 (c' := ivA ((decL (D.set i (-1)) ((O i).take q)).set ((O i).getD q 0) ((decL (D.set i (-1)) ((O i).take q)).getD ((O i).getD q 0) 0 - 1))) Try.sizeOf3 rfl rfl (by rw [ivA_size, hEl]; exact hm) rfl rfl (ivA_set _ _ _)) ?_
                rintro _ _ rfl
                rw [← decL_step _ hc5]
                dsimp only [put, List.set, ev, nth, List.nil_append, List.cons_append, md, Nat.reducePow, Nat.reduceAdd, Nat.reduceMul]
                refine WL_nil ?_
                refine WC_region ?_
                refine WL_det rfl (det_addi (q := 1) rfl rfl (by omega)) ?_
                dsimp only [put, List.set, ev, nth, List.nil_append, List.cons_append, md, Nat.reducePow, Nat.reduceAdd, Nat.reduceMul]
                refine WL_det rfl (det_move) ?_
                dsimp only [put, List.set, ev, nth, List.nil_append, List.cons_append, md, Nat.reducePow, Nat.reduceAdd, Nat.reduceMul]
                refine WL_nil ?_
                refine ⟨q + 1, ?_, ?_, ?_, ?_⟩
                · rfl
                · rfl
                · omega
                · omega
              · have hc5 := of_decide_eq_false hc5
                obtain rfl : q = (O i).length := by omega
                rw [List.take_length]
                refine WC_exit ?_
                refine inB_same ?_
                refine ⟨(decL (D.set i (-1)) (O i), o ++ [i], v69, e69), ?_, ?_, ?_, ?_⟩
                · rfl
                · rfl
                · refine ⟨by rw [decL_len, List.length_set]; exact hDl, by dsimp only; rw [List.length_append, List.length_singleton]; omega, ?_, hr69, ?_⟩
                  · dsimp only
                    rw [List.length_append, List.length_singleton]
                    exact (decL_bd (O i) hBs (by omega)).mono (by have := hO i; omega) (Int.le_refl _)
                  · dsimp only
                    rw [List.length_append, List.length_singleton, show N.length - (o.length + 1) = f by omega]
                    exact hre
                · dsimp only; rw [List.length_append, List.length_singleton]; omega
        · have hc3 := of_decide_eq_false hc3
          rw [List.length_map] at hc3
          rw [show N.length - o.length = 0 by omega, ordR] at hre
          refine WC_exit ?_
          refine inB_same ?_
          refine WC_seq ?_
          refine WC_region ?_
          refine WL_det rfl (det_move) ?_
          dsimp only [put, List.set, ev, nth, List.nil_append, List.cons_append, md, Nat.reducePow, Nat.reduceAdd, Nat.reduceMul]
          refine WL_det rfl (det_assign) ?_
          dsimp only [put, List.set, ev, nth, List.nil_append, List.cons_append, md, Nat.reducePow, Nat.reduceAdd, Nat.reduceMul]
          refine WL_det rfl (det_assign) ?_
          dsimp only [put, List.set, ev, nth, List.nil_append, List.cons_append, md, Nat.reducePow, Nat.reduceAdd, Nat.reduceMul]
          refine WL_nil ?_
          refine WC_ret ?_
          refine fin_tmp2 Try.results34 rfl rfl ([e1]) (.cons _ (List.Sublist.refl _)) ?_
          exact ⟨v1, e1, by rw [hR, ← hre]; rfl, by rw [hR, ← hre]; exact h1, rfl⟩

end Go.Proofs.Ytocmlaloafmfkaa

set_option linter.unusedVariables false
namespace Go.Proofs.Ytocmlaloafmfkaa
open Go.MW
section
variable {α : Type} [DecidableEq α]
theorem fst_inj {A : List (α × Int)} (h : (A.map Prod.fst).Nodup) {i j : Nat} {x y : α × Int} (hi : A[i]? = some x) (hj : A[j]? = some y) (e : x.1 = y.1) : i = j := by
  have h1 : (A.map Prod.fst)[i]? = some x.1 := by simp [hi]
  have h2 : (A.map Prod.fst)[j]? = some x.1 := by simp [hj, e]
  exact (idx_get h h1).symm.trans (idx_get h h2)
theorem mem_fst {A : List (α × Int)} {y : α} (h : y ∈ A.map Prod.fst) : ∃ (i : Nat) (x : α × Int), A[i]? = some x ∧ x.1 = y := by
  obtain ⟨x, hx, rfl⟩ := List.mem_map.1 h
  obtain ⟨i, hi⟩ := List.mem_iff_getElem?.1 hx
  exact ⟨i, x, hi, rfl⟩
theorem fst_mem {A : List (α × Int)} {i : Nat} {x : α × Int} (h : A[i]? = some x) : x.1 ∈ A.map Prod.fst := List.mem_map.2 ⟨x, List.mem_of_getElem? h, rfl⟩
theorem pre_get {A B : List (α × Int)} (h : A <+: B) {i : Nat} {x : α × Int} (hx : A[i]? = some x) : B[i]? = some x := by
  obtain ⟨t, rfl⟩ := h
  rw [List.getElem?_append_left (List.getElem?_eq_some_iff.1 hx).1]; exact hx
/-- What the search keeps. -/
structure SrOk (es : List (α × α)) (F : List α) (A : List (α × Int)) : Prop where
  nodup : (A.map Prod.fst).Nodup
  back : BackOk A
  pre : seedA F <+: A
  seed : ∀ (i : Nat) (x : α × Int), A[i]? = some x → (x.2 = -1 ↔ i < (seedA F).length)
  edge : ∀ (i : Nat) (x : α × Int), A[i]? = some x → 0 ≤ x.2 → ∃ p, A[x.2.toNat]? = some p ∧ (p.1, x.1) ∈ es
theorem seed_back1 (F : List α) : ∀ x ∈ seedA F, x.2 = -1 := by
  unfold seedA
  suffices h : ∀ (l : List α) (A : List (α × Int)), (∀ x ∈ A, x.2 = -1) → ∀ x ∈ l.foldl (insA (-1)) A, x.2 = -1 from h F [] (fun x h => by simp at h)
  intro l
  induction l with
  | nil => exact fun A h => h
  | cons y l ih =>
    intro A h
    refine ih _ fun x hx => ?_
    unfold insA at hx
    split at hx
    · exact h x hx
    · rcases List.mem_append.1 hx with hx | hx
      · exact h x hx
      · simp at hx; subst hx; rfl
theorem mem_seed {F : List α} {x : α} : x ∈ (seedA F).map Prod.fst ↔ x ∈ F := by
  unfold seedA
  rw [mem_fold]; simp
theorem SrOk.zero (es : List (α × α)) (F : List α) : SrOk es F (seedA F) where
  nodup := stA_nodup es F 0
  back := seed_back F
  pre := List.prefix_refl _
  seed i x h := ⟨fun _ => (List.getElem?_eq_some_iff.1 h).1, fun _ => seed_back1 F x (List.mem_of_getElem? h)⟩
  edge i x h h0 := by
    have := seed_back1 F x (List.mem_of_getElem? h)
    omega
theorem SrOk.ins {es : List (α × α)} {F : List α} {A : List (α × Int)} (h : SrOk es F A) {i : Nat} {p : α × Int} (hp : A[i]? = some p) {y : α} (he : (p.1, y) ∈ es) : SrOk es F (insA (i : Int) A y) := by
  have hi : i < A.length := (List.getElem?_eq_some_iff.1 hp).1
  have hl := h.pre.length_le
  by_cases hy : y ∈ A.map Prod.fst
  · rw [insA_old hy]; exact h
  have hap : A <+: insA (i : Int) A y := insA_pre _ _ _
  have hnd := insA_nodup (i := (i : Int)) h.nodup y
  have hbk := insA_back h.back (i := (i : Int)) (by omega) (by omega) y
  rw [insA_new hy] at hap hnd hbk ⊢
  have new : ∀ (k : Nat) (x : α × Int), (A ++ [(y, (i : Int))])[k]? = some x → A[k]? = some x ∨ (k = A.length ∧ x = (y, (i : Int))) := by
    intro k x hx
    by_cases hk : k < A.length
    · rw [List.getElem?_append_left hk] at hx; exact .inl hx
    · rw [List.getElem?_append_right (by omega)] at hx
      have e : k - A.length = 0 := by
        have := (List.getElem?_eq_some_iff.1 hx).1
        simp at this; omega
      rw [e] at hx
      simp at hx
      exact .inr ⟨by omega, hx.symm⟩
  refine ⟨hnd, hbk, h.pre.trans hap, fun k x hx => ?_, fun k x hx h0 => ?_⟩
  · rcases new k x hx with h1 | ⟨rfl, rfl⟩
    · exact h.seed k x h1
    · constructor
      · intro h0; dsimp only at h0; omega
      · intro h0; omega
  · rcases new k x hx with h1 | ⟨rfl, rfl⟩
    · obtain ⟨q, hq, h2⟩ := h.edge k x h1 h0
      exact ⟨q, pre_get hap hq, h2⟩
    · exact ⟨p, pre_get hap (by simpa using hp), he⟩
theorem SrOk.fold {es : List (α × α)} {F : List α} {i : Nat} {p : α × Int} : ∀ (l : List α) {A : List (α × Int)}, SrOk es F A → A[i]? = some p → (∀ y ∈ l, (p.1, y) ∈ es) → SrOk es F (l.foldl (insA (i : Int)) A)
  | [], _, h, _, _ => h
  | y :: l, _, h, hp, he => SrOk.fold l (h.ins hp (he y (by simp))) (pre_get (insA_pre _ _ _) hp) fun z hz => he z (by simp [hz])
theorem SrOk.st (es : List (α × α)) (F : List α) : ∀ i, SrOk es F (stA es F i)
  | 0 => SrOk.zero es F
  | i + 1 => by
    show SrOk es F (expA es i (stA es F i))
    unfold expA
    split
    · rename_i p hp
      exact (SrOk.st es F i).fold _ hp fun y hy => mem_succ.1 hy
    · exact SrOk.st es F i
theorem srch_ok (es : List (α × α)) (F : List α) : SrOk es F (srch es F) := SrOk.st es F _
theorem st_pre (es : List (α × α)) (F : List α) (i : Nat) : ∀ d, stA es F i <+: stA es F (i + d)
  | 0 => List.prefix_refl _
  | d + 1 => (st_pre es F i d).trans (expA_pre es _ _)
theorem st_lt (es : List (α × α)) (F : List α) : ∀ i, ∀ x ∈ stA es F i, x.2 < (i : Int)
  | 0 => fun x hx => by
    have := seed_back1 F x hx
    omega
  | i + 1 => by
    show ∀ x ∈ expA es i (stA es F i), _
    have ih := st_lt es F i
    unfold expA
    split
    · rename_i p hp
      suffices h : ∀ (l : List α) (A : List (α × Int)), (∀ x ∈ A, x.2 < ((i + 1 : Nat) : Int)) → ∀ x ∈ l.foldl (insA (i : Int)) A, x.2 < ((i + 1 : Nat) : Int) from h _ _ fun x hx => by have := ih x hx; omega
      intro l
      induction l with
      | nil => exact fun A h => h
      | cons y l ih2 =>
        intro A h
        refine ih2 _ fun x hx => ?_
        unfold insA at hx
        split at hx
        · exact h x hx
        · rcases List.mem_append.1 hx with hx | hx
          · exact h x hx
          · simp at hx; subst hx; show (i : Int) < _; omega
    · intro x hx
      have := ih x hx; omega
/-- What is led to from what is come to is come to, and not later. -/
theorem srch_closed {es : List (α × α)} {F : List α} {j : Nat} {x : α × Int} (hx : (srch es F)[j]? = some x) {y : α} (he : (x.1, y) ∈ es) : ∃ (k : Nat) (z : α × Int), (srch es F)[k]? = some z ∧ z.1 = y ∧ z.2 ≤ (j : Int) := by
  have hj : j < (srch es F).length := (List.getElem?_eq_some_iff.1 hx).1
  have hb : (srch es F).length ≤ bndA es F := stA_len es F _
  have hl : j < (stA es F j).length := by
    apply Classical.byContradiction
    intro h
    have := srch_eq (es := es) (from_ := F) (i := j) (by omega) (by omega)
    rw [this] at hj
    omega
  have hp : ∀ i, i ≤ bndA es F → stA es F i <+: srch es F := fun i hi => by
    have := st_pre es F i (bndA es F - i)
    rwa [show i + (bndA es F - i) = bndA es F by omega] at this
  have hxj : (stA es F j)[j]? = some x := by
    have h1 : (stA es F j)[j]? = some (stA es F j)[j] := List.getElem?_eq_getElem hl
    have h2 := pre_get (hp j (by omega)) h1
    rw [hx] at h2
    rw [h1, h2]
  have hy : y ∈ (stA es F (j + 1)).map Prod.fst := by
    show y ∈ (expA es j (stA es F j)).map Prod.fst
    unfold expA
    rw [hxj]
    exact (mem_fold _ _).2 (.inr (mem_succ.2 he))
  obtain ⟨k, z, hk, hz⟩ := mem_fst hy
  have hlt := st_lt es F (j + 1) z (List.mem_of_getElem? hk)
  exact ⟨k, z, pre_get (hp (j + 1) (by omega)) hk, hz, by omega⟩
/-- What can be come to. -/
inductive Rch (es : List (α × α)) (F : List α) : α → Prop
  | base {x : α} (h : x ∈ F) : Rch es F x
  | step {a b : α} (h : Rch es F a) (he : (a, b) ∈ es) : Rch es F b
theorem mem_srch {es : List (α × α)} {F : List α} {x : α} : x ∈ (srch es F).map Prod.fst ↔ Rch es F x := by
  constructor
  · intro h
    obtain ⟨i, z, hz, rfl⟩ := mem_fst h
    have ok := srch_ok es F
    clear h
    induction i using Nat.strongRecOn generalizing z with
    | ind i ih =>
      have hb := ok.back i z hz
      by_cases h0 : z.2 = -1
      · have hi := (ok.seed i z hz).1 h0
        have hs : (seedA F)[i]? = some (seedA F)[i] := List.getElem?_eq_getElem hi
        have := pre_get ok.pre hs
        rw [hz] at this
        simp only [Option.some.injEq] at this
        rw [this]
        exact .base (mem_seed.1 (fst_mem hs))
      · obtain ⟨p, hp, he⟩ := ok.edge i z hz (by omega)
        exact .step (ih _ (by omega) p hp) he
  · intro h
    induction h with
    | base h =>
      have ok := srch_ok es F
      obtain ⟨i, z, hz, rfl⟩ := mem_fst (mem_seed.2 h)
      exact fst_mem (pre_get ok.pre hz)
    | step _ he ih =>
      obtain ⟨i, z, hz, rfl⟩ := mem_fst ih
      obtain ⟨k, u, hk, rfl, _⟩ := srch_closed hz he
      exact fst_mem hk
theorem Rch.mono {es es' : List (α × α)} {F F' : List α} (h1 : ∀ e ∈ es, e ∈ es') (h2 : ∀ x ∈ F, x ∈ F') {x : α} (h : Rch es F x) : Rch es' F' x := by
  induction h with
  | base h => exact .base (h2 _ h)
  | step _ he ih => exact .step ih (h1 _ he)
theorem addE_mem {es : List (α × α)} {e x : α × α} : x ∈ addE es e ↔ x ∈ es ∨ x = e := by
  unfold addE; split
  · rename_i h
    constructor
    · exact .inl
    · rintro (h2 | rfl)
      · exact h2
      · exact h
  · simp
theorem mem_once {l : List (α × α)} {x : α × α} : x ∈ onceE l ↔ x ∈ l := by
  refine snoc_ind (p := fun l => x ∈ onceE l ↔ x ∈ l) (by simp [onceE]) (fun l e ih => ?_) l
  have : onceE (l ++ [e]) = addE (onceE l) e := by simp [onceE]
  rw [this, addE_mem, ih, List.mem_append, List.mem_singleton]
end

end Go.Proofs.Ytocmlaloafmfkaa

set_option linter.unusedVariables false
namespace Go.Proofs.Ytocmlaloafmfkaa
open Go.MW
section
variable {α : Type} [DecidableEq α]
/-- What the chain back from place n says. -/
structure ChOk (es : List (α × α)) (F : List α) (A : List (α × Int)) (n : Nat) (x : α × Int) (c : List α) : Prop where
  head : ∃ t, c = x.1 :: t
  last : ∃ t s, c = t ++ [s] ∧ ∃ (j : Nat) (y : α × Int), A[j]? = some y ∧ y.1 = s ∧ y.2 = -1
  edge : ∀ (k : Nat) (a b : α), c[k]? = some a → c[k + 1]? = some b → (b, a) ∈ es
  low : ∀ a ∈ c, ∃ (i : Nat) (y : α × Int), A[i]? = some y ∧ y.1 = a ∧ i ≤ n
  nodup : c.Nodup
  two : 1 < c.length → 0 ≤ x.2
  three : 2 < c.length → ∃ z : α × Int, A[x.2.toNat]? = some z ∧ 0 ≤ z.2
theorem chain_ok {es : List (α × α)} {F : List α} {A : List (α × Int)} (h : SrOk es F A) (n : Nat) : ∀ x, A[n]? = some x → ChOk es F A n x (chainI A (n : Int)) := by
  induction n using Nat.strongRecOn with
  | ind n ih =>
    intro x hx
    have hb := h.back n x hx
    rw [chainI_step h.back hx]
    by_cases h0 : x.2 < 0
    · have e : chainI A x.2 = [] := by unfold chainI; rw [if_pos h0]
      rw [e]
      exact ⟨⟨[], rfl⟩, ⟨[], x.1, rfl, n, x, hx, rfl, by omega⟩, fun k a b _ h2 => by simp at h2, fun a ha => by simp at ha; exact ⟨n, x, hx, ha.symm, Nat.le_refl _⟩, by simp, fun h => by simp at h, fun h => by simp at h⟩
    · obtain ⟨p, hp, he⟩ := h.edge n x hx (by omega)
      have hk : x.2 = ((x.2.toNat : Nat) : Int) := by omega
      generalize hkk : x.2.toNat = k at *
      have hc := ih k (by omega) p hp
      rw [hk]
      obtain ⟨t, ht⟩ := hc.head
      refine ⟨⟨_, rfl⟩, ?_, ?_, ?_, ?_, fun _ => by omega, fun hl => ?_⟩
      · obtain ⟨t, s, h1, h2⟩ := hc.last
        exact ⟨x.1 :: t, s, by rw [h1]; rfl, h2⟩
      · intro q a b ha hb'
        cases q with
        | zero =>
          simp only [List.getElem?_cons_zero, Option.some.injEq] at ha
          rw [List.getElem?_cons_succ, ht] at hb'
          simp only [List.getElem?_cons_zero, Option.some.injEq] at hb'
          subst ha hb'
          exact he
        | succ q =>
          rw [List.getElem?_cons_succ] at ha hb'
          exact hc.edge q a b ha hb'
      · intro a ha
        rcases List.mem_cons.1 ha with rfl | ha
        · exact ⟨n, x, hx, rfl, Nat.le_refl _⟩
        · obtain ⟨i, y, h1, h2, h3⟩ := hc.low a ha
          exact ⟨i, y, h1, h2, by omega⟩
      · refine List.nodup_cons.2 ⟨fun hm => ?_, hc.nodup⟩
        obtain ⟨i, y, h1, h2, h3⟩ := hc.low _ hm
        have := fst_inj h.nodup h1 hx h2
        omega
      · rw [hkk]
        exact ⟨p, hp, hc.two (by simp at hl; omega)⟩
theorem getD_some {l : List α} {i : Nat} {a d : α} (h : l[i]? = some a) : l.getD i d = a := by rw [List.getD_eq_getElem?_getD, h]; rfl
theorem get_getD {l : List α} {i : Nat} (d : α) (h : i < l.length) : l[i]? = some (l.getD i d) := by rw [List.getD_eq_getElem?_getD, List.getElem?_eq_getElem h]; rfl
/-- What a path says (P26.2). -/
structure PathOk (L : List (α × α)) (F : List α) (to d : α) (p : List α) : Prop where
  pos : 1 ≤ p.length
  first : p.getD 0 d ∈ F
  last : p.getD (p.length - 1) d = to
  seed : 1 < p.length → to ∉ F
  edge : ∀ i, i + 1 < p.length → (p.getD i d, p.getD (i + 1) d) ∈ L
  short : 2 < p.length → (p.getD 0 d, to) ∉ L
  once : ∀ i, i < p.length → p.getD i d ∉ p.take i
theorem path_ok {es : List (α × α)} {F : List α} {to : α} (d : α) (hto : to ∈ (srch es F).map Prod.fst) : PathOk es F to d (pathA (srch es F) (((srch es F).map Prod.fst).idxOf to)) := by
  have ok := srch_ok es F
  generalize hn : ((srch es F).map Prod.fst).idxOf to = n
  obtain ⟨x, hx, hxt⟩ : ∃ x, (srch es F)[n]? = some x ∧ x.1 = to := by
    have := get_idx hto
    rw [hn, List.getElem?_map] at this
    cases h : (srch es F)[n]? with
    | none => rw [h] at this; cases this
    | some x => rw [h] at this; exact ⟨x, rfl, by simpa using this⟩
  have hc := chain_ok ok n x hx
  unfold pathA
  generalize chainI (srch es F) (n : Int) = c at *
  have hlen : c.reverse.length = c.length := List.length_reverse
  have hrev : ∀ i, i < c.length → c.reverse.getD i d = c.getD (c.length - 1 - i) d := fun i hi => by
    rw [List.getD_eq_getElem?_getD, List.getElem?_reverse hi, List.getD_eq_getElem?_getD]
  obtain ⟨t, ht⟩ := hc.head
  have hpos : 1 ≤ c.length := by rw [ht]; simp
  obtain ⟨t2, s, hs, j, y, hj, hys, hy1⟩ := hc.last
  have hfirst : c.reverse.getD 0 d = s := by
    rw [hrev 0 hpos, hs]
    exact getD_some (by simp)
  have hjs := (ok.seed j y hj).1 hy1
  refine ⟨by omega, ?_, ?_, ?_, ?_, ?_, ?_⟩
  · rw [hfirst, ← hys]
    have h1 : (seedA F)[j]? = some (seedA F)[j] := List.getElem?_eq_getElem hjs
    have h2 := pre_get ok.pre h1
    rw [hj] at h2
    simp only [Option.some.injEq] at h2
    rw [h2]
    exact mem_seed.1 (fst_mem h1)
  · rw [hlen, hrev _ (by omega), show c.length - 1 - (c.length - 1) = 0 by omega, ← hxt, ht]
    rfl
  · intro hl hF
    rw [hlen] at hl
    have h2 := hc.two hl
    obtain ⟨i, z, hz, hzt⟩ := mem_fst (mem_seed.2 hF)
    have hz' := pre_get ok.pre hz
    have hin := fst_inj ok.nodup hz' hx (by rw [hzt, hxt])
    subst hin
    have := (ok.seed i x hx).2 (List.getElem?_eq_some_iff.1 hz).1
    omega
  · intro i hi
    rw [hlen] at hi
    rw [hrev i (by omega), hrev (i + 1) hi]
    refine hc.edge (c.length - 1 - (i + 1)) _ _ (get_getD d (by omega)) ?_
    rw [show c.length - 1 - (i + 1) + 1 = c.length - 1 - i by omega]
    exact get_getD d (by omega)
  · intro hl he
    rw [hlen] at hl
    rw [hfirst, ← hys] at he
    obtain ⟨z, hz, hz0⟩ := hc.three hl
    have h2 := hc.two (by omega)
    obtain ⟨k, u, hk, hut, hub⟩ := srch_closed hj he
    have hkn := fst_inj ok.nodup hk hx (by rw [hut, hxt])
    subst hkn
    rw [hx] at hk
    simp only [Option.some.injEq] at hk
    subst hk
    have := (ok.seed _ z hz).2 (by omega)
    omega
  · intro i hi hm
    have hnd : c.reverse.Nodup := (List.reverse_perm c).nodup_iff.2 hc.nodup
    obtain ⟨q, hq, he⟩ := List.mem_iff_getElem.1 hm
    rw [List.length_take] at hq
    rw [List.getElem_take] at he
    have h1 : c.reverse[q]? = some (c.reverse.getD i d) := by rw [List.getElem?_eq_getElem (by omega), he]
    have h2 := get_getD d hi
    have e1 := idx_get hnd h1
    have e2 := idx_get hnd h2
    omega
end

end Go.Proofs.Ytocmlaloafmfkaa

set_option linter.unusedVariables false
set_option linter.unusedSectionVars false
set_option linter.unusedSimpArgs false
namespace Go.Proofs.Ytocmlaloafmfkaa
open Go.MW
theorem getD_set {D : List Int} {j i : Nat} {x : Int} (hi : i < D.length) : (D.set j x).getD i 0 = if j = i then x else D.getD i 0 := by
  rw [List.getD_eq_getElem?_getD, List.getElem?_set]
  by_cases e : j = i
  · subst e; rw [if_pos rfl, if_pos rfl, if_pos hi]; rfl
  · rw [if_neg e, if_neg e, List.getD_eq_getElem?_getD]
theorem decL_at (l : List Nat) : ∀ (D : List Int) (i : Nat), i < D.length → (decL D l).getD i 0 = D.getD i 0 - (l.count i : Nat) := by
  unfold decL
  induction l with
  | nil => intro D i _; simp
  | cons x l ih =>
    intro D i hi
    rw [List.foldl_cons, ih _ _ (by rw [List.length_set]; exact hi), getD_set hi, List.count_cons]
    by_cases e : x = i
    · subst e; simp; omega
    · simp [e]
theorem incL_at (l : List Nat) : ∀ (D : List Int) (i : Nat), i < D.length → (incL D l).getD i 0 = D.getD i 0 + (l.count i : Nat) := by
  unfold incL
  induction l with
  | nil => intro D i _; simp
  | cons x l ih =>
    intro D i hi
    rw [List.foldl_cons, ih _ _ (by rw [List.length_set]; exact hi), getD_set hi, List.count_cons]
    by_cases e : x = i
    · subst e; simp; omega
    · simp [e]
def sumC (R : List Nat) (o : List Nat) (f : Nat → Nat) : Nat := ((R.filter fun a => decide (a ∉ o)).map f).sum
/-- How many lead to place i from places that are not done. -/
def cn (O : Nat → List Nat) (n : Nat) (o : List Nat) (i : Nat) : Nat := sumC (List.range n) o fun a => (O a).count i
theorem degA_at (O : Nat → List Nat) (n : Nat) {i : Nat} (hi : i < n) : ∀ k, (degA O n k).getD i 0 = (((List.range k).map fun a => (O a).count i).sum : Nat)
  | 0 => by rw [degA, List.getD_eq_getElem?_getD, List.getElem?_replicate, if_pos hi]; rfl
  | k + 1 => by
    rw [degA, incL_at _ _ _ (by rw [degA_len]; exact hi), degA_at O n hi k, List.range_succ, List.map_append, List.sum_append]
    simp
theorem sumC_notin {R o : List Nat} {f : Nat → Nat} {x : Nat} (hx : x ∉ R) : sumC R (o ++ [x]) f = sumC R o f := by
  unfold sumC
  congr 2
  apply List.filter_congr
  intro a ha
  have : a ≠ x := fun e => hx (e ▸ ha)
  simp [this]
theorem sumC_snoc {o : List Nat} {f : Nat → Nat} {x : Nat} (hxo : x ∉ o) : ∀ {R : List Nat}, R.Nodup → x ∈ R → sumC R o f = f x + sumC R (o ++ [x]) f
  | [], _, h => by simp at h
  | a :: R, hn, h => by
    obtain ⟨h1, h2⟩ := List.nodup_cons.1 hn
    by_cases e : a = x
    · subst e
      have := sumC_notin (o := o) (f := f) h1
      unfold sumC at this ⊢
      rw [List.filter_cons, List.filter_cons, if_pos (by simpa using hxo), if_neg (by simp), this]
      simp
    · have hx : x ∈ R := by
        rcases List.mem_cons.1 h with h | h
        · exact absurd h.symm e
        · exact h
      have ih := sumC_snoc (o := o) (f := f) hxo h2 hx
      unfold sumC at ih ⊢
      by_cases ha : a ∈ o
      · rw [List.filter_cons, List.filter_cons, if_neg (by simpa using ha), if_neg (by simp [ha])]
        exact ih
      · rw [List.filter_cons, List.filter_cons, if_pos (by simpa using ha), if_pos (by simp [ha, e])]
        simp only [List.map_cons, List.sum_cons]
        omega
theorem cn_snoc {O : Nat → List Nat} {n : Nat} {o : List Nat} {x : Nat} (hx : x < n) (hxo : x ∉ o) (i : Nat) : cn O n o i = (O x).count i + cn O n (o ++ [x]) i :=
  sumC_snoc hxo List.nodup_range (List.mem_range.2 hx)
theorem sum_zero {α : Type} (f : α → Nat) : ∀ (R : List α), (R.map f).sum = 0 ↔ ∀ a ∈ R, f a = 0
  | [] => by simp
  | a :: R => by
    rw [List.map_cons, List.sum_cons]
    have ih := sum_zero f R
    constructor
    · intro h b hb
      rcases List.mem_cons.1 hb with rfl | hb
      · omega
      · exact ih.1 (by omega) b hb
    · intro h
      have h1 := h a (by simp)
      have h2 := ih.2 fun b hb => h b (by simp [hb])
      omega
theorem cn_zero {O : Nat → List Nat} {n : Nat} {o : List Nat} {i : Nat} : cn O n o i = 0 ↔ ∀ a, a < n → a ∉ o → i ∉ O a := by
  unfold cn sumC
  rw [sum_zero]
  constructor
  · intro h a ha hao
    have := h a (List.mem_filter.2 ⟨List.mem_range.2 ha, by simpa using hao⟩)
    exact List.count_eq_zero.1 this
  · intro h a ha
    obtain ⟨h1, h2⟩ := List.mem_filter.1 ha
    exact List.count_eq_zero.2 (h a (List.mem_range.1 h1) (by simpa using h2))
/-- What the in-degrees say while the order is made. -/
structure OrdInv (O : Nat → List Nat) (n : Nat) (D : List Int) (o : List Nat) : Prop where
  len : D.length = n
  lt : ∀ x ∈ o, x < n
  done : ∀ x ∈ o, D.getD x 0 = -1 ∧ cn O n o x = 0
  rest : ∀ i, i < n → i ∉ o → D.getD i 0 = (cn O n o i : Nat)
theorem OrdInv.zero (O : Nat → List Nat) (n : Nat) : OrdInv O n (degA O n n) [] where
  len := degA_len O n n
  lt x h := by simp at h
  done x h := by simp at h
  rest i hi _ := by
    rw [degA_at O n hi n]
    unfold cn sumC
    rw [List.filter_eq_self.2 (fun a _ => by simp)]
theorem OrdInv.step {O : Nat → List Nat} {n : Nat} {D : List Int} {o : List Nat} (h : OrdInv O n D o) {i : Nat} (hi : i < n) (hz : D.getD i 0 = 0) : OrdInv O n (decL (D.set i (-1)) (O i)) (o ++ [i]) := by
  have hio : i ∉ o := fun hm => by have := (h.done i hm).1; omega
  have hc0 : cn O n o i = 0 := by have := h.rest i hi hio; omega
  have hat : ∀ x, x < n → (decL (D.set i (-1)) (O i)).getD x 0 = (if i = x then -1 else D.getD x 0) - ((O i).count x : Nat) := fun x hx => by
    rw [decL_at _ _ _ (by rw [List.length_set, h.len]; exact hx), getD_set (by rw [h.len]; exact hx)]
  have hs := fun x => cn_snoc (O := O) hi hio x
  refine ⟨by rw [decL_len, List.length_set, h.len], fun x hx => ?_, fun x hx => ?_, fun x hx hxo => ?_⟩
  · rcases List.mem_append.1 hx with hx | hx
    · exact h.lt x hx
    · simp at hx; omega
  · rcases List.mem_append.1 hx with hx | hx
    · have hxn := h.lt x hx
      obtain ⟨h1, h2⟩ := h.done x hx
      have h3 := hs x
      have hne : i ≠ x := fun e => hio (e ▸ hx)
      rw [hat x hxn, if_neg hne]
      constructor <;> omega
    · simp at hx; subst hx
      have h3 := hs x
      rw [hat x hi, if_pos rfl]
      constructor <;> omega
  · rw [List.mem_append, not_or] at hxo
    have hne : i ≠ x := fun e => hxo.2 (by simp [e])
    have h1 := h.rest x hx hxo.1
    have h3 := hs x
    rw [hat x hx, if_neg hne]
    omega
theorem isG_out {α : Type} [DecidableEq α] (es : List (α × α)) : IsG es (nodesE es) (outE es) where
  nodes := rfl
  rest i hi := by unfold outE; rw [List.getElem?_eq_none hi]
  row i a h := by unfold outE; rw [h]
theorem OrdInv.free {es : List (Int × Int)} {D : List Int} {o : List Nat} (h : OrdInv (outE es) (nodesE es).length D o) {i : Nat} (hi : i < (nodesE es).length) :
    D.getD i 0 = 0 ↔ ((nodesE es).getD i 0 ∉ o.map fun i => (nodesE es).getD i 0) ∧ ∀ e ∈ es, e.2 = (nodesE es).getD i 0 → e.1 ∈ o.map fun i => (nodesE es).getD i 0 := by
  have hnd := nodes_nodup es
  have hG := isG_out es
  have hmem : ∀ a, a < (nodesE es).length → ((nodesE es).getD a 0 ∈ (o.map fun i => (nodesE es).getD i 0) ↔ a ∈ o) := fun a ha => by
    rw [List.mem_map]
    constructor
    · rintro ⟨x, hx, e⟩
      have hxn := h.lt x hx
      have e1 := idx_get hnd (get_getD 0 hxn)
      have e2 := idx_get hnd (get_getD 0 ha)
      rw [e, e2] at e1
      exact e1 ▸ hx
    · intro hx; exact ⟨a, hx, rfl⟩
  have hrow : ∀ a, a < (nodesE es).length → (i ∈ outE es a ↔ ((nodesE es).getD a 0, (nodesE es).getD i 0) ∈ es) := fun a ha => by
    rw [hG.row a _ (get_getD 0 ha), List.mem_map]
    constructor
    · rintro ⟨y, hy, e⟩
      have g := get_idx (succ_node hy)
      rw [e, get_getD 0 hi] at g
      simp only [Option.some.injEq] at g
      rw [g]; exact mem_succ.1 hy
    · intro he
      exact ⟨_, mem_succ.2 he, idx_get hnd (get_getD 0 hi)⟩
  have key : D.getD i 0 = 0 ↔ i ∉ o ∧ cn (outE es) (nodesE es).length o i = 0 := by
    by_cases hio : i ∈ o
    · have := (h.done i hio).1
      constructor
      · intro h0; omega
      · rintro ⟨h1, _⟩; exact absurd hio h1
    · have := h.rest i hi hio
      constructor
      · intro h0; exact ⟨hio, by omega⟩
      · rintro ⟨_, h2⟩; omega
  rw [key, cn_zero, hmem i hi]
  refine and_congr_right fun hio => ⟨fun hall e he h2 => ?_, fun hall a ha hao hia => ?_⟩
  · have hn : e.1 ∈ nodesE es := mem_nodes.2 ⟨e, he, .inl rfl⟩
    have hlt := List.idxOf_lt_length_iff.2 hn
    have hge : (nodesE es).getD ((nodesE es).idxOf e.1) 0 = e.1 := getD_some (get_idx hn)
    rw [← hge, hmem _ hlt]
    apply Classical.byContradiction
    intro hno
    refine hall _ hlt hno ((hrow _ hlt).2 ?_)
    rw [hge, ← h2]
    exact he
  · exact hao ((hmem a ha).1 (hall _ ((hrow a ha).1 hia) rfl))
theorem ordR_len (O : Nat → List Nat) : ∀ (f : Nat) (D : List Int) (o r : List Nat), ordR O f D o = some r → r.length = o.length + f
  | 0, D, o, r, h => by rw [ordR] at h; simp only [Option.some.injEq] at h; subst h; rfl
  | f + 1, D, o, r, h => by
    rw [ordR] at h
    split at h
    · have := ordR_len O f _ _ _ h
      rw [this, List.length_append, List.length_singleton]; omega
    · cases h
theorem ordE_len (es : List (Int × Int)) : (ordE es).1.length ≤ 2 * es.length := by
  have h1 := nodes_len es
  unfold ordE ordP ordL
  split
  · rename_i r hr
    have := ordR_len _ _ _ _ _ hr
    simp only [List.length_map]
    simp at this
    omega
  · exact Nat.zero_le _
/-- Is a node the order's next, as far as k edges say? -/
def frB (es : List (Int × Int)) (om : List Int) (x : Int) (k : Nat) : Bool := !decide (x ∈ om) && (es.take k).all fun e => decide (e.2 = x → e.1 ∈ om)
theorem frB_zero (es : List (Int × Int)) (om : List Int) (x : Int) : frB es om x 0 = !decide (x ∈ om) := by simp [frB]
theorem frB_step {es : List (Int × Int)} {om : List Int} {x : Int} {k : Nat} (h : k < es.length) : frB es om x (k + 1) = (frB es om x k && decide ((es.getD k (0, 0)).2 = x → (es.getD k (0, 0)).1 ∈ om)) := by
  unfold frB
  rw [List.take_succ_eq_append_getElem h, List.all_append, List.getD_eq_getElem?_getD, List.getElem?_eq_getElem h, Bool.and_assoc]
  simp
theorem frB_all {es : List (Int × Int)} {D : List Int} {o : List Nat} (h : OrdInv (outE es) (nodesE es).length D o) {i : Nat} (hi : i < (nodesE es).length) :
    frB es (o.map fun i => (nodesE es).getD i 0) ((nodesE es).getD i 0) es.length = decide (D.getD i 0 = 0) := by
  rw [Bool.eq_iff_iff, decide_eq_true_iff, h.free hi]
  unfold frB
  rw [List.take_length, Bool.and_eq_true, List.all_eq_true]
  exact and_congr (by rw [Bool.not_eq_true', decide_eq_false_iff_not]) (forall_congr' fun e => imp_congr_right fun _ => decide_eq_true_iff)

end Go.Proofs.Ytocmlaloafmfkaa
