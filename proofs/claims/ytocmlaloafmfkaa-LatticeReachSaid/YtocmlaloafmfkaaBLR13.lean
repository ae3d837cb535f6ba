/- What the claim of this folder needs of its texts, put together by a program of this claim. Conditions: none. -/
import Derived.Test.YtocmlaloafmfkaaBLR12
set_option linter.unusedSectionVars false
set_option linter.unusedSimpArgs false
set_option linter.unusedVariables false
set_option linter.unusedVariables false
namespace Go.Proofs.Ytocmlaloafmfkaa
open Go.MW
def ivA (D : List Int) : Array Value := (iv D).toArray
theorem ivA_at (D : List Int) {i : Nat} (h : i < D.length) : (ivA D)[i]? = some (.int .i64 (D.getD i 0)) := by
  rw [ivA, List.getElem?_toArray]; exact iv_at D h
theorem ivA_size (D : List Int) : (ivA D).size = D.length := by simp [ivA, iv]
theorem ivA_set (D : List Int) (i : Nat) (x : Int) : (ivA D).setIfInBounds i (.int .i64 x) = ivA (D.set i x) := by
  simp [ivA, iv, List.map_set]
theorem ivA_zero (n : Nat) : arr .i64 n (fun _ => 0) = ivA (List.replicate n 0) := by
  apply Array.ext_getElem?
  intro i
  by_cases h : i < n
  · rw [arr_get .i64 n _ h, ivA_at _ (by simpa using h)]
    simp [List.getD_eq_getElem?_getD, h]
  · rw [Array.getElem?_eq_none (by rw [arr_size]; omega), Array.getElem?_eq_none (by rw [ivA_size]; simp; omega)]
theorem ivA_rd {w0 w : World} {m : Mem} (hw : Has w0 m w) (i : Nat) {b c : Nat} {D : List Int} {n : Nat} (hm : m[i]? = some (some b, .cells (ivA D) 3 (0, 0))) (hn : D.length = n) : RdL w (iv D) (.slice (some ⟨b, 0, none⟩) n c) := by
  refine ⟨_, c, b, 0, by rw [iv_len, hn], fun _ => rfl, fun j hj => ?_⟩
  rw [iv_len] at hj
  rw [Nat.zero_add, iv_at D hj]
  simp [World.cell?, hw.at i hm, ivA_at D hj]
def incL (D : List Int) (l : List Nat) : List Int := l.foldl (fun D m => D.set m (D.getD m 0 + 1)) D
def decL (D : List Int) (l : List Nat) : List Int := l.foldl (fun D m => D.set m (D.getD m 0 - 1)) D
theorem incL_len (l : List Nat) : ∀ D : List Int, (incL D l).length = D.length := by
  unfold incL
  induction l with
  | nil => intro D; rfl
  | cons x l ih => intro D; rw [List.foldl_cons, ih, List.length_set]
theorem decL_len (l : List Nat) : ∀ D : List Int, (decL D l).length = D.length := by
  unfold decL
  induction l with
  | nil => intro D; rfl
  | cons x l ih => intro D; rw [List.foldl_cons, ih, List.length_set]
theorem incL_step (D : List Int) {l : List Nat} {q : Nat} (h : q < l.length) : incL D (l.take (q + 1)) = (incL D (l.take q)).set (l.getD q 0) ((incL D (l.take q)).getD (l.getD q 0) 0 + 1) := by
  unfold incL
  rw [List.take_succ_eq_append_getElem h, List.foldl_append, List.getD_eq_getElem?_getD (l := l), List.getElem?_eq_getElem h]
  rfl
theorem decL_step (D : List Int) {l : List Nat} {q : Nat} (h : q < l.length) : decL D (l.take (q + 1)) = (decL D (l.take q)).set (l.getD q 0) ((decL D (l.take q)).getD (l.getD q 0) 0 - 1) := by
  unfold decL
  rw [List.take_succ_eq_append_getElem h, List.foldl_append, List.getD_eq_getElem?_getD (l := l), List.getElem?_eq_getElem h]
  rfl
def BdL (a b : Int) (D : List Int) : Prop := ∀ i, a ≤ D.getD i 0 ∧ D.getD i 0 ≤ b
theorem BdL.set {a b : Int} {D : List Int} (h : BdL a b D) {x : Int} (h1 : a ≤ x) (h2 : x ≤ b) (j : Nat) : BdL a b (D.set j x) := by
  intro i
  rw [List.getD_eq_getElem?_getD, List.getElem?_set]
  by_cases e : j = i
  · subst e
    rw [if_pos rfl]
    by_cases hl : j < D.length
    · rw [if_pos hl]; exact ⟨h1, h2⟩
    · have := h j
      rw [List.getD_eq_getElem?_getD, List.getElem?_eq_none (by omega)] at this
      rw [if_neg hl]; exact this
  · rw [if_neg e, ← List.getD_eq_getElem?_getD]; exact h i
theorem BdL.mono {a b a' b' : Int} {D : List Int} (h : BdL a b D) (h1 : a' ≤ a) (h2 : b ≤ b') : BdL a' b' D := fun i => ⟨by have := h i; omega, by have := h i; omega⟩
theorem incL_bd (l : List Nat) : ∀ {b : Int} {D : List Int}, BdL 0 b D → 0 ≤ b → BdL 0 (b + l.length) (incL D l) := by
  unfold incL
  induction l with
  | nil => intro b D h _; simpa using h
  | cons x l ih =>
    intro b D h hb
    rw [List.foldl_cons, List.length_cons]
    have := h x
    exact (ih ((h.mono (Int.le_refl _) (show b ≤ b + 1 by omega)).set (by omega) (by omega) x) (by omega)).mono (Int.le_refl _) (by omega)
theorem decL_bd (l : List Nat) : ∀ {a b : Int} {D : List Int}, BdL a b D → a ≤ 0 → BdL (a - l.length) b (decL D l) := by
  unfold decL
  induction l with
  | nil => intro a b D h _; simpa using h
  | cons x l ih =>
    intro a b D h hb
    rw [List.foldl_cons, List.length_cons]
    have := h x
    exact (ih ((h.mono (show a - 1 ≤ a by omega) (Int.le_refl _)).set (by omega) (by omega) x) (by omega)).mono (by omega) (Int.le_refl _)
/-- How many lead to each, of the first k rows. -/
def degA (O : Nat → List Nat) (n : Nat) : Nat → List Int
  | 0 => List.replicate n 0
  | k + 1 => incL (degA O n k) (O k)
theorem degA_len (O : Nat → List Nat) (n : Nat) : ∀ k, (degA O n k).length = n
  | 0 => by simp [degA]
  | k + 1 => by rw [degA, incL_len, degA_len O n k]
theorem degA_bd {O : Nat → List Nat} (hO : ∀ i, (O i).length ≤ 1000) (n : Nat) : ∀ k, BdL 0 (1000 * k : Nat) (degA O n k)
  | 0 => fun i => by
    rw [degA, List.getD_eq_getElem?_getD, List.getElem?_replicate]
    split <;> simp
  | k + 1 => (incL_bd (O k) (degA_bd hO n k) (by omega)).mono (Int.le_refl _) (by have := hO k; omega)
/-- The places, each ahead of what it leads to; f of them are still to come. -/
def ordR (O : Nat → List Nat) : Nat → List Int → List Nat → Option (List Nat)
  | 0, _, o => some o
  | f + 1, D, o => if 0 ∈ D then ordR O f (decL (D.set (D.idxOf 0) (-1)) (O (D.idxOf 0))) (o ++ [D.idxOf 0]) else none
def ordP (O : Nat → List Nat) (n : Nat) : Option (List Nat) := ordR O n (degA O n n) []
def outE {α : Type} [DecidableEq α] (es : List (α × α)) (i : Nat) : List Nat := match (nodesE es)[i]? with | some a => (succ es a).map (nodesE es).idxOf | none => []
theorem IsG.out {α : Type} [DecidableEq α] {es : List (α × α)} {N : List α} {O : Nat → List Nat} (h : IsG es N O) : O = outE es := by
  funext i
  unfold outE
  rw [← h.nodes]
  cases hx : N[i]? with
  | none => exact h.rest i (by simpa using hx)
  | some a => exact h.row i a hx
def ordL (N : List Int) (r : Option (List Nat)) : List Int × Bool := match r with | some o => (o.map fun i => N.getD i 0, true) | none => ([], false)
def ordE (es : List (Int × Int)) : List Int × Bool := ordL (nodesE es) (ordP (outE es) (nodesE es).length)

set_option maxRecDepth 100000 in
set_option maxHeartbeats 4000000 in
theorem order_spec (gb : Nat) (es : List (Int × Int)) (hes : es.length ≤ 200) (w : World) (hG : GW intK 103 gb es w) :
    Calls Try.prog 34 [.pointer (some ⟨gb, 0, none⟩)].toArray w (Post w (fun v m => ∃ v1 e1, v = .tuple #[v1, .bool (ordE es).2] ∧ RowO 3 (iv (ordE es).1) v1 e1 ∧ m = [e1])) := by
  obtain ⟨N, O, hGr, hG⟩ := hG
  have hG0 := hG
  obtain ⟨mb, nv0, ov, rv, hgb, hmb, hn, ho, hrow⟩ := hG
  have hn : RdL w (iv N) nv0 := hn
  have hnl := nodes_len es
  have hN : N.length ≤ 1000 := by rw [hGr.nodes]; omega
  have hO : ∀ i, (O i).length ≤ 1000 := fun i => by have := hGr.olen i; omega
  have hOm : ∀ i, i < N.length → ∀ q, q < (O i).length → (O i).getD q 0 < N.length := fun i hi q hq => (hGr.getO (hGr.row i _ (List.getElem?_eq_getElem hi)) hq 0).1
  have hR : ordE es = ordL N (ordP O N.length) := by unfold ordE; rw [← hGr.nodes, ← hGr.out]
  refine calls_of_WC Try.func34 rfl ?_
  simp only [Try.ntmps34, List.length_cons, List.length_nil, Nat.reduceAdd, Nat.reduceSub, List.replicate, List.cons_append, List.nil_append]
  refine WC_seq ?_
  refine WC_region ?_
  refine WL_det rfl (det_assign) ?_
  dsimp only [put, List.set, ev, nth, List.nil_append, List.cons_append, md, Nat.reducePow, Nat.reduceAdd, Nat.reduceMul]
  refine WL_det rfl (det_assign) ?_
  dsimp only [put, List.set, ev, nth, List.nil_append, List.cons_append, md, Nat.reducePow, Nat.reduceAdd, Nat.reduceMul]
  refine WL_nil ?_
  refine WC_seq ?_
  refine WC_seq ?_
  refine WC_region ?_
  refine WL_det rfl (det_move) ?_
  dsimp only [put, List.set, ev, nth, List.nil_append, List.cons_append, md, Nat.reducePow, Nat.reduceAdd, Nat.reduceMul]
  refine WL_rel rfl (Rel_call rfl Try.call53 (fun w hw => isG_ok gb N O es.length hN hO w (hG0.far hw))) ?_
  rintro _ _ ⟨rfl, rfl⟩
  dsimp only [put, List.append_nil, List.set, ev, nth, List.nil_append, List.cons_append, md, Nat.reducePow, Nat.reduceAdd, Nat.reduceMul]
  refine WL_det rfl (det_not rfl) ?_
  dsimp only [put, List.set, ev, nth, List.nil_append, List.cons_append, md, Nat.reducePow, Nat.reduceAdd, Nat.reduceMul]
  refine WL_nil ?_
  refine WC_cond_false rfl ?_
  refine WC_skip ?_
  refine WC_seq ?_
  refine WC_region ?_
  refine WL_det rfl (det_move) ?_
  dsimp only [put, List.set, ev, nth, List.nil_append, List.cons_append, md, Nat.reducePow, Nat.reduceAdd, Nat.reduceMul]
  refine WL_det rfl (det_nilCheck rfl) ?_
  dsimp only [put, List.set, ev, nth, List.nil_append, List.cons_append, md, Nat.reducePow, Nat.reduceAdd, Nat.reduceMul]
  refine WL_det rfl (det_fieldAddr 1 Try.underlying103 rfl Try.sizeOf43 rfl) ?_
  dsimp only [put, List.set, ev, nth, List.nil_append, List.cons_append, md, Nat.reducePow, Nat.reduceAdd, Nat.reduceMul]
  refine WL_det rfl (det_loadFB Try.isAgg43 rfl hgb rfl) ?_
  dsimp only [put, List.set, ev, nth, List.nil_append, List.cons_append, md, Nat.reducePow, Nat.reduceAdd, Nat.reduceMul]
  refine WL_det rfl (det_lenR Try.underlying43 rfl (fun w hw => RdL.far hw hn) (iv_len N)) ?_
  dsimp only [put, List.set, ev, nth, List.nil_append, List.cons_append, md, Nat.reducePow, Nat.reduceAdd, Nat.reduceMul]
  refine WL_rel rfl (rel_make (n := N.length) Try.underlying43 ei3 rfl rfl (by omega) (by simp only [maxLen]; omega)) ?_
  rintro _ _ ⟨b0, rfl, rfl⟩
  dsimp only [put, List.set, ev, nth, List.nil_append, List.cons_append, md, Nat.reducePow, Nat.reduceAdd, Nat.reduceMul]
  refine WL_det rfl (det_assign) ?_
  dsimp only [put, List.set, ev, nth, List.nil_append, List.cons_append, md, Nat.reducePow, Nat.reduceAdd, Nat.reduceMul]
  refine WL_nil ?_
  rw [ivA_zero]
  refine WC_seq ?_
  refine WC_seq ?_
  refine WC_region ?_
  refine WL_det rfl (det_move) ?_
  dsimp only [put, List.set, ev, nth, List.nil_append, List.cons_append, md, Nat.reducePow, Nat.reduceAdd, Nat.reduceMul]
  refine WL_det rfl (det_nilCheck rfl) ?_
  dsimp only [put, List.set, ev, nth, List.nil_append, List.cons_append, md, Nat.reducePow, Nat.reduceAdd, Nat.reduceMul]
  refine WL_det rfl (det_fieldAddr 2 Try.underlying103 rfl Try.sizeOf101 rfl) ?_
  dsimp only [put, List.set, ev, nth, List.nil_append, List.cons_append, md, Nat.reducePow, Nat.reduceAdd, Nat.reduceMul]
  refine WL_det rfl (det_loadFB Try.isAgg101 rfl hgb rfl) ?_
  dsimp only [put, List.set, ev, nth, List.nil_append, List.cons_append, md, Nat.reducePow, Nat.reduceAdd, Nat.reduceMul]
  refine WL_det rfl (det_lenR Try.underlying101 rfl (fun w hw => RdL.far hw ho) (rvl_len rv N.length)) ?_
  dsimp only [put, List.set, ev, nth, List.nil_append, List.cons_append, md, Nat.reducePow, Nat.reduceAdd, Nat.reduceMul]
  refine WL_det rfl (det_move) ?_
  dsimp only [put, List.set, ev, nth, List.nil_append, List.cons_append, md, Nat.reducePow, Nat.reduceAdd, Nat.reduceMul]
  refine WL_nil ?_
  refine WC_block ?_
  refine WC_loopS (ι := Nat) [28, 29, 30, 6, 31, 32, 33, 34, 35, 36, 8, 37, 38, 39, 40, 41, 42, 43, 44] (fun k => [(27, vn .i64 (k))]) (fun k => [(0, (some b0, .cells (ivA (degA O N.length k)) 3 (0, 0)))]) (fun k => k ≤ N.length) (fun k => N.length - k) 0 ?_ ?_ ?_ ?_
  · rfl
  · rfl
  · exact Nat.zero_le _
  · rintro k g' hk
    dsimp only [setAll, setG, setM, List.set]
    refine WC_seq ?_
    refine WC_region ?_
    refine WL_det rfl (det_lss rfl rfl) ?_
    dsimp only [put, List.set, ev, nth, List.nil_append, List.cons_append, md, Nat.reducePow, Nat.reduceAdd, Nat.reduceMul]
    refine WL_nil ?_
    refine WC_seq ?_
    refine WC_cond rfl (fun hc1 => ?_) (fun hc1 => ?_)
    · have hc1 := of_decide_eq_true hc1
      refine WC_skip ?_
      refine WC_seq ?_
      refine WC_block ?_
      refine WC_seq ?_
      refine WC_region ?_
      refine WL_det rfl (det_idxR Try.underlying101 Try.sizeOf43 rfl rfl (rfl) (by rw [rvl_len]; omega) (fun w hw => RdL.far hw ho)) ?_
      dsimp only [put, List.set, ev, nth, List.nil_append, List.cons_append, md, Nat.reducePow, Nat.reduceAdd, Nat.reduceMul]
      refine WL_det rfl (det_loadR Try.isAgg43 rfl (fun w hw => RdL.far hw ho) (rvl_at rv N.length (by omega))) ?_
      dsimp only [put, List.set, ev, nth, List.nil_append, List.cons_append, md, Nat.reducePow, Nat.reduceAdd, Nat.reduceMul]
      refine WL_det rfl (det_assign) ?_
      dsimp only [put, List.set, ev, nth, List.nil_append, List.cons_append, md, Nat.reducePow, Nat.reduceAdd, Nat.reduceMul]
      refine WL_nil ?_
      refine WC_seq ?_
      refine WC_region ?_
      refine WL_det rfl (det_move) ?_
      dsimp only [put, List.set, ev, nth, List.nil_append, List.cons_append, md, Nat.reducePow, Nat.reduceAdd, Nat.reduceMul]
      refine WL_det rfl (det_lenR Try.underlying43 rfl (fun w hw => RdL.far hw (hrow k (by omega))) (nv_len (O k))) ?_
      dsimp only [put, List.set, ev, nth, List.nil_append, List.cons_append, md, Nat.reducePow, Nat.reduceAdd, Nat.reduceMul]
      refine WL_det rfl (det_move) ?_
      dsimp only [put, List.set, ev, nth, List.nil_append, List.cons_append, md, Nat.reducePow, Nat.reduceAdd, Nat.reduceMul]
      refine WL_nil ?_
      refine WC_block ?_
      refine WC_loopS (ι := Nat) [34, 35, 36, 8, 37, 38, 39, 40, 41, 42, 43] (fun q => [(33, vn .i64 (q))]) (fun q => [(0, (some b0, .cells (ivA (incL (degA O N.length k) ((O k).take q))) 3 (0, 0)))]) (fun q => q ≤ (O k).length) (fun q => (O k).length - q) 0 ?_ ?_ ?_ ?_
      · rfl
      · rfl
      · exact Nat.zero_le _
      · rintro q g'' hq
        dsimp only [setAll, setG, setM, List.set]
        refine WC_seq ?_
        refine WC_region ?_
        refine WL_det rfl (det_lss rfl rfl) ?_
        dsimp only [put, List.set, ev, nth, List.nil_append, List.cons_append, md, Nat.reducePow, Nat.reduceAdd, Nat.reduceMul]
        refine WL_nil ?_
        refine WC_seq ?_
        refine WC_cond rfl (fun hc2 => ?_) (fun hc2 => ?_)
        · have hc2 := of_decide_eq_true hc2
          have hOk := hO k
          have hm := hOm k (by omega) q hc2
          have hDl : (incL (degA O N.length k) ((O k).take q)).length = N.length := by rw [incL_len, degA_len]
          have hb := incL_bd ((O k).take q) (degA_bd hO N.length k) (by omega) ((O k).getD q 0)
          have htl : ((O k).take q).length ≤ 1000 := by rw [List.length_take]; have := hO k; omega
          refine WC_skip ?_
          refine WC_seq ?_
          refine WC_block ?_
          refine WC_seq ?_
          refine WC_region ?_
          refine WL_det rfl (det_idxR Try.underlying43 Try.sizeOf3 rfl rfl (rfl) (by rw [nv_len]; omega) (fun w hw => RdL.far hw (hrow k (by omega)))) ?_
          dsimp only [put, List.set, ev, nth, List.nil_append, List.cons_append, md, Nat.reducePow, Nat.reduceAdd, Nat.reduceMul]
          refine WL_det rfl (det_loadR Try.isAgg3 rfl (fun w hw => RdL.far hw (hrow k (by omega))) (nv_at (O k) (by omega))) ?_
          dsimp only [put, List.set, ev, nth, List.nil_append, List.cons_append, md, Nat.reducePow, Nat.reduceAdd, Nat.reduceMul]
          refine WL_det rfl (det_assign) ?_
          dsimp only [put, List.set, ev, nth, List.nil_append, List.cons_append, md, Nat.reducePow, Nat.reduceAdd, Nat.reduceMul]
          refine WL_nil ?_
          refine WC_region ?_
          refine WL_det rfl (det_move) ?_
          dsimp only [put, List.set, ev, nth, List.nil_append, List.cons_append, md, Nat.reducePow, Nat.reduceAdd, Nat.reduceMul]
          refine WL_det rfl (det_move) ?_
          dsimp only [put, List.set, ev, nth, List.nil_append, List.cons_append, md, Nat.reducePow, Nat.reduceAdd, Nat.reduceMul]
          refine WL_det rfl (det_idxS0 Try.underlying43 Try.sizeOf3 rfl rfl (rfl) (hm)) ?_
          dsimp only [put, List.set, ev, nth, List.nil_append, List.cons_append, md, Nat.reducePow, Nat.reduceAdd, Nat.reduceMul]
          refine WL_det rfl (det_load 0 Try.isAgg3 rfl rfl (ivA_at _ (by rw [hDl]; exact hm))) ?_
          dsimp only [put, List.set, ev, nth, List.nil_append, List.cons_append, md, Nat.reducePow, Nat.reduceAdd, Nat.reduceMul]
          refine WL_det rfl (det_addz rfl rfl rfl (by omega) (by omega)) ?_
          dsimp only [put, List.set, ev, nth, List.nil_append, List.cons_append, md, Nat.reducePow, Nat.reduceAdd, Nat.reduceMul]
          refine WL_det rfl (det_idxS0 Try.underlying43 Try.sizeOf3 rfl rfl (rfl) (hm)) ?_
          dsimp only [put, List.set, ev, nth, List.nil_append, List.cons_append, md, Nat.reducePow, Nat.reduceAdd, Nat.reduceMul]
          refine WL_chg rfl (chg_storeC 0 (c' := ivA ((incL (degA O N.length k) ((O k).take q)).set ((O k).getD q 0) ((incL (degA O N.length k) ((O k).take q)).getD ((O k).getD q 0) 0 + 1))) Try.sizeOf3 rfl rfl (by rw [ivA_size, hDl]; exact hm) rfl rfl (ivA_set _ _ _)) ?_
          rintro _ _ rfl
          rw [← incL_step _ hc2]
          dsimp only [put, List.set, ev, nth, List.nil_append, List.cons_append, md, Nat.reducePow, Nat.reduceAdd, Nat.reduceMul]
          refine WL_nil ?_
          refine WC_region ?_
          refine WL_det rfl (det_addi (q := 1) rfl rfl (by omega)) ?_
          dsimp only [put, List.set, ev, nth, List.nil_append, List.cons_append, md, Nat.reducePow, Nat.reduceAdd, Nat.reduceMul]
          refine WL_det rfl (det_move) ?_
          dsimp only [put, List.set, ev, nth, List.nil_append, List.cons_append, md, Nat.reducePow, Nat.reduceAdd, Nat.reduceMul]
          refine WL_nil ?_
          refine ⟨q + 1, ?_, ?_, ?_, ?_⟩
          · rfl
          · rfl
          · omega
          · omega
        · have hc2 := of_decide_eq_false hc2
          obtain rfl : q = (O k).length := by omega
          rw [List.take_length, show incL (degA O N.length k) (O k) = degA O N.length (k + 1) from rfl]
          refine WC_exit ?_
          refine inB_same ?_
          refine WC_region ?_
          refine WL_det rfl (det_addi (q := 1) rfl rfl (by omega)) ?_
          dsimp only [put, List.set, ev, nth, List.nil_append, List.cons_append, md, Nat.reducePow, Nat.reduceAdd, Nat.reduceMul]
          refine WL_det rfl (det_move) ?_
          dsimp only [put, List.set, ev, nth, List.nil_append, List.cons_append, md, Nat.reducePow, Nat.reduceAdd, Nat.reduceMul]
          refine WL_nil ?_
          refine ⟨k + 1, ?_, ?_, ?_, ?_⟩
          · rfl
          · rfl
          · omega
          · omega
    · have hc1 := of_decide_eq_false hc1
      obtain rfl : k = N.length := by omega
      refine WC_exit ?_
      refine inB_same ?_
      refine WC_seq ?_
      refine WC_region ?_
      refine WL_det rfl (det_assign) ?_
      dsimp only [put, List.set, ev, nth, List.nil_append, List.cons_append, md, Nat.reducePow, Nat.reduceAdd, Nat.reduceMul]
      refine WL_nil ?_
      refine WC_seq ?_
      refine WC_block ?_
      refine WC.addNone (.cells #[] 3 (0, 0)) ?_
      dsimp only [List.cons_append, List.nil_append]
      refine WC_loopS (ι := List Int × List Nat × Value × (Option Nat × Obj)) [45, 46, 47, 48, 49, 50, 51, 52, 53, 54, 10, 55, 56, 2, 3, 57, 58, 59, 60, 61, 62, 63, 64, 65, 66, 67, 68, 69, 70, 71, 72, 73, 74, 75, 76, 77, 78, 79, 80, 81, 12, 82, 83, 84, 85, 86, 87, 88] (fun x => [(9, x.2.2.1)]) (fun x => [(0, (some b0, .cells (ivA x.1) 3 (0, 0))), (1, x.2.2.2)]) (fun x => x.1.length = N.length ∧ x.2.1.length ≤ N.length ∧ BdL (-(1001 * x.2.1.length : Nat)) 1000000 x.1 ∧ RowO 3 (iv (x.2.1.map fun i => N.getD i 0)) x.2.2.1 x.2.2.2 ∧ ordR O (N.length - x.2.1.length) x.1 x.2.1 = ordP O N.length) (fun x => N.length - x.2.1.length) (degA O N.length N.length, [], .slice none 0 0, (none, .cells #[] 3 (0, 0))) ?_ ?_ ?_ ?_
      · rfl
      · rfl
      · exact ⟨degA_len _ _ _, Nat.zero_le _, (degA_bd hO N.length N.length).mono (by simp) (by omega), RowO.nil _ _, rfl⟩
      · rintro ⟨D, o, v1, e1⟩ g' ⟨hDl, hol, hB, h1, hre⟩
        dsimp only [setAll, setG, setM, List.set]
        dsimp only at hDl hol hB h1 hre
        refine WC_seq ?_
        refine WC_seq ?_
        refine WC_region ?_
        refine WL_det rfl (det_move) ?_
        dsimp only [put, List.set, ev, nth, List.nil_append, List.cons_append, md, Nat.reducePow, Nat.reduceAdd, Nat.reduceMul]
        refine WL_det rfl (det_lenR Try.underlying43 rfl (fun w hw => RowO.rd hw 1 rfl h1) (iv_len (o.map fun i => N.getD i 0))) ?_
        dsimp only [put, List.set, ev, nth, List.nil_append, List.cons_append, md, Nat.reducePow, Nat.reduceAdd, Nat.reduceMul]
        refine WL_det rfl (det_move) ?_
        dsimp only [put, List.set, ev, nth, List.nil_append, List.cons_append, md, Nat.reducePow, Nat.reduceAdd, Nat.reduceMul]
        refine WL_det rfl (det_nilCheck rfl) ?_
        dsimp only [put, List.set, ev, nth, List.nil_append, List.cons_append, md, Nat.reducePow, Nat.reduceAdd, Nat.reduceMul]
        refine WL_det rfl (det_fieldAddr 1 Try.underlying103 rfl Try.sizeOf43 rfl) ?_
        dsimp only [put, List.set, ev, nth, List.nil_append, List.cons_append, md, Nat.reducePow, Nat.reduceAdd, Nat.reduceMul]
        refine WL_det rfl (det_loadFB Try.isAgg43 rfl hgb rfl) ?_
        dsimp only [put, List.set, ev, nth, List.nil_append, List.cons_append, md, Nat.reducePow, Nat.reduceAdd, Nat.reduceMul]
        refine WL_det rfl (det_lenR Try.underlying43 rfl (fun w hw => RdL.far hw hn) (iv_len N)) ?_
        dsimp only [put, List.set, ev, nth, List.nil_append, List.cons_append, md, Nat.reducePow, Nat.reduceAdd, Nat.reduceMul]
        refine WL_det rfl (det_lss rfl rfl) ?_
        dsimp only [put, List.set, ev, nth, List.nil_append, List.cons_append, md, Nat.reducePow, Nat.reduceAdd, Nat.reduceMul]
        refine WL_nil ?_
        refine WC_cond rfl (fun hc3 => ?_) (fun hc3 => ?_)
        · have hc3 := of_decide_eq_true hc3
          rw [List.length_map] at hc3
          obtain ⟨f, hf⟩ : ∃ f, N.length - o.length = f + 1 := ⟨N.length - o.length - 1, by omega⟩
          rw [hf, ordR] at hre
          refine WC_skip ?_
          refine WC_block ?_
          refine WC_seq ?_
          refine WC_region ?_
          refine WL_det rfl (det_move) ?_
          dsimp only [put, List.set, ev, nth, List.nil_append, List.cons_append, md, Nat.reducePow, Nat.reduceAdd, Nat.reduceMul]
          refine WL_rel rfl (Rel_call rfl Try.call51 (fun w hw => indexI_spec D 0 _ (by omega) w (ivA_rd hw 0 rfl hDl))) ?_
          rintro _ _ ⟨rfl, rfl⟩
          dsimp only [put, List.append_nil, List.set, ev, nth, List.nil_append, List.cons_append, md, Nat.reducePow, Nat.reduceAdd, Nat.reduceMul]
          refine WL_det rfl (det_assign) ?_
          dsimp only [put, List.set, ev, nth, List.nil_append, List.cons_append, md, Nat.reducePow, Nat.reduceAdd, Nat.reduceMul]
          refine WL_nil ?_
          refine WC_seq ?_
          refine WC_seq ?_
          refine WC_region ?_
          refine WL_det rfl (det_move) ?_
          dsimp only [put, List.set, ev, nth, List.nil_append, List.cons_append, md, Nat.reducePow, Nat.reduceAdd, Nat.reduceMul]
          refine WL_det rfl (det_lssz rfl rfl) ?_
          dsimp only [put, List.set, ev, nth, List.nil_append, List.cons_append, md, Nat.reducePow, Nat.reduceAdd, Nat.reduceMul]
          refine WL_nil ?_
          refine WC_cond rfl (fun hc4 => ?_) (fun hc4 => ?_)
          · have hc4 := of_decide_eq_true hc4
            have hz : 0 ∉ D := fun h => by rw [idxI, if_pos h] at hc4; omega
            rw [if_neg hz] at hre
            have hfin : ordE es = ([], false) := by rw [hR, ← hre]; rfl
            refine WC_seq ?_
            refine WC_region ?_
            refine WL_det rfl (det_assign) ?_
            dsimp only [put, List.set, ev, nth, List.nil_append, List.cons_append, md, Nat.reducePow, Nat.reduceAdd, Nat.reduceMul]
            refine WL_det rfl (det_assign) ?_
            dsimp only [put, List.set, ev, nth, List.nil_append, List.cons_append, md, Nat.reducePow, Nat.reduceAdd, Nat.reduceMul]
            refine WL_nil ?_
            refine WC_ret ?_
            refine inB_ret ?_
            refine inB_ret ?_
            refine fin_tmp2 Try.results34 rfl rfl ([e1]) (.cons _ (List.Sublist.refl _)) ?_
            exact ⟨.slice none 0 0, e1, by rw [hfin]; rfl, by rw [hfin]; exact RowO.nil _ _, rfl⟩
          · have hc4 := of_decide_eq_false hc4
            have hz : 0 ∈ D := Classical.byContradiction fun h => hc4 (by rw [idxI, if_neg h]; omega)
            rw [if_pos hz] at hre
            rw [show idxI D 0 = ((D.idxOf 0 : Nat) : Int) from if_pos hz]
            have hi : D.idxOf 0 < N.length := hDl ▸ List.idxOf_lt_length_iff.2 hz
            generalize D.idxOf 0 = i at *
            have hBs : BdL (-(1001 * o.length + 1 : Nat)) 1000000 (D.set i (-1)) := (hB.mono (by omega) (Int.le_refl _)).set (by omega) (by omega) i
            refine WC_skip ?_
            refine WC_seq ?_
            refine WC_region ?_
            refine WL_det rfl (det_move) ?_
            dsimp only [put, List.set, ev, nth, List.nil_append, List.cons_append, md, Nat.reducePow, Nat.reduceAdd, Nat.reduceMul]
            refine WL_det rfl (det_move) ?_
            dsimp only [put, List.set, ev, nth, List.nil_append, List.cons_append, md, Nat.reducePow, Nat.reduceAdd, Nat.reduceMul]
            refine WL_det rfl (det_idxS0 (j := i) Try.underlying43 Try.sizeOf3 rfl rfl (rfl) (hi)) ?_
            dsimp only [put, List.set, ev, nth, List.nil_append, List.cons_append, md, Nat.reducePow, Nat.reduceAdd, Nat.reduceMul]
            refine WL_chg rfl (chg_storeC 0 (c' := ivA (D.set i (-1))) Try.sizeOf3 rfl rfl (by rw [ivA_size, hDl]; exact hi) rfl rfl (ivA_set _ _ _)) ?_
            rintro _ _ rfl
            dsimp only [put, List.set, ev, nth, List.nil_append, List.cons_append, md, Nat.reducePow, Nat.reduceAdd, Nat.reduceMul]
            refine WL_nil ?_
            refine WC_seq ?_
            refine WC_region ?_
            refine WL_det rfl (det_move) ?_
            dsimp only [put, List.set, ev, nth, List.nil_append, List.cons_append, md, Nat.reducePow, Nat.reduceAdd, Nat.reduceMul]
            refine WL_det rfl (det_move) ?_
            dsimp only [put, List.set, ev, nth, List.nil_append, List.cons_append, md, Nat.reducePow, Nat.reduceAdd, Nat.reduceMul]
            refine WL_det rfl (det_nilCheck rfl) ?_
            dsimp only [put, List.set, ev, nth, List.nil_append, List.cons_append, md, Nat.reducePow, Nat.reduceAdd, Nat.reduceMul]
            refine WL_det rfl (det_fieldAddr 1 Try.underlying103 rfl Try.sizeOf43 rfl) ?_
            dsimp only [put, List.set, ev, nth, List.nil_append, List.cons_append, md, Nat.reducePow, Nat.reduceAdd, Nat.reduceMul]
            refine WL_det rfl (det_loadFB Try.isAgg43 rfl hgb rfl) ?_
            dsimp only [put, List.set, ev, nth, List.nil_append, List.cons_append, md, Nat.reducePow, Nat.reduceAdd, Nat.reduceMul]
            refine WL_det rfl (det_move) ?_
            dsimp only [put, List.set, ev, nth, List.nil_append, List.cons_append, md, Nat.reducePow, Nat.reduceAdd, Nat.reduceMul]
            refine WL_det rfl (det_idxR (j := i) Try.underlying43 Try.sizeOf3 rfl rfl (rfl) (by rw [iv_len]; exact hi) (fun w hw => RdL.far hw hn)) ?_
            dsimp only [put, List.set, ev, nth, List.nil_append, List.cons_append, md, Nat.reducePow, Nat.reduceAdd, Nat.reduceMul]
            refine WL_det rfl (det_loadR Try.isAgg3 rfl (fun w hw => RdL.far hw hn) (iv_at N (hi))) ?_
            dsimp only [put, List.set, ev, nth, List.nil_append, List.cons_append, md, Nat.reducePow, Nat.reduceAdd, Nat.reduceMul]
            refine WL_rel rfl (rel_lit1 Try.underlying43 Try.zeroValue3 Try.sizeOf3 rfl rfl) ?_
            rintro _ _ ⟨bl, rfl, rfl⟩
            dsimp only [put, List.set, ev, nth, List.nil_append, List.cons_append, md, Nat.reducePow, Nat.reduceAdd, Nat.reduceMul]
            refine WL_chg rfl (chg_appendO1 1 2 rfl (by decide) (h1) rfl rfl rfl rfl Try.underlying43 ei3 rfl (by rw [iv_len, List.length_map]; omega) (by decide)) ?_
            rintro v69 _ ⟨e69, hr69, rfl⟩
            dsimp only [put, List.eraseIdx, List.set, ev, nth, List.nil_append, List.cons_append, md, Nat.reducePow, Nat.reduceAdd, Nat.reduceMul]
            rw [iv_snoc] at hr69
            rw [show (o.map fun i => N.getD i 0) ++ [N.getD i 0] = (o ++ [i]).map fun i => N.getD i 0 by simp] at hr69
            refine WL_det rfl (det_assign) ?_
            dsimp only [put, List.set, ev, nth, List.nil_append, List.cons_append, md, Nat.reducePow, Nat.reduceAdd, Nat.reduceMul]
            refine WL_nil ?_
            refine WC_seq ?_
            refine WC_region ?_
            refine WL_det rfl (det_move) ?_
            dsimp only [put, List.set, ev, nth, List.nil_append, List.cons_append, md, Nat.reducePow, Nat.reduceAdd, Nat.reduceMul]
            refine WL_det rfl (det_nilCheck rfl) ?_
            dsimp only [put, List.set, ev, nth, List.nil_append, List.cons_append, md, Nat.reducePow, Nat.reduceAdd, Nat.reduceMul]
            refine WL_det rfl (det_fieldAddr 2 Try.underlying103 rfl Try.sizeOf101 rfl) ?_
            dsimp only [put, List.set, ev, nth, List.nil_append, List.cons_append, md, Nat.reducePow, Nat.reduceAdd, Nat.reduceMul]
            refine WL_det rfl (det_loadFB Try.isAgg101 rfl hgb rfl) ?_
            dsimp only [put, List.set, ev, nth, List.nil_append, List.cons_append, md, Nat.reducePow, Nat.reduceAdd, Nat.reduceMul]
            refine WL_det rfl (det_move) ?_
            dsimp only [put, List.set, ev, nth, List.nil_append, List.cons_append, md, Nat.reducePow, Nat.reduceAdd, Nat.reduceMul]
            refine WL_det rfl (det_idxR (j := i) Try.underlying101 Try.sizeOf43 rfl rfl (rfl) (by rw [rvl_len]; exact hi) (fun w hw => RdL.far hw ho)) ?_
            dsimp only [put, List.set, ev, nth, List.nil_append, List.cons_append, md, Nat.reducePow, Nat.reduceAdd, Nat.reduceMul]
            refine WL_det rfl (det_loadR Try.isAgg43 rfl (fun w hw => RdL.far hw ho) (rvl_at rv N.length (hi))) ?_
            dsimp only [put, List.set, ev, nth, List.nil_append, List.cons_append, md, Nat.reducePow, Nat.reduceAdd, Nat.reduceMul]
            refine WL_det rfl (det_lenR Try.underlying43 rfl (fun w hw => RdL.far hw (hrow i hi)) (nv_len (O i))) ?_
            dsimp only [put, List.set, ev, nth, List.nil_append, List.cons_append, md, Nat.reducePow, Nat.reduceAdd, Nat.reduceMul]
            refine WL_det rfl (det_move) ?_
            dsimp only [put, List.set, ev, nth, List.nil_append, List.cons_append, md, Nat.reducePow, Nat.reduceAdd, Nat.reduceMul]
            refine WL_nil ?_
            refine WC_block ?_
            refine WC_loopS (ι := Nat) [79, 80, 81, 12, 82, 83, 84, 85, 86, 87, 88] (fun q => [(78, vn .i64 (q))]) (fun q => [(0, (some b0, .cells (ivA (decL (D.set i (-1)) ((O i).take q))) 3 (0, 0)))]) (fun q => q ≤ (O i).length) (fun q => (O i).length - q) 0 ?_ ?_ ?_ ?_
            · rfl
            · rfl
            · exact Nat.zero_le _
            · rintro q g'' hq
              dsimp only [setAll, setG, setM, List.set]
              refine WC_seq ?_
              refine WC_region ?_
              refine WL_det rfl (det_lss rfl rfl) ?_
              dsimp only [put, List.set, ev, nth, List.nil_append, List.cons_append, md, Nat.reducePow, Nat.reduceAdd, Nat.reduceMul]
              refine WL_nil ?_
              refine WC_seq ?_
              refine WC_cond rfl (fun hc5 => ?_) (fun hc5 => ?_)
              · have hc5 := of_decide_eq_true hc5
                have hOi := hO i
                have hm := hOm i hi q hc5
                have hEl : (decL (D.set i (-1)) ((O i).take q)).length = N.length := by rw [decL_len, List.length_set, hDl]
                have hb := decL_bd ((O i).take q) hBs (by omega) ((O i).getD q 0)
                have htl : ((O i).take q).length ≤ 1000 := by rw [List.length_take]; have := hO i; omega
                refine WC_skip ?_
                refine WC_seq ?_
                refine WC_block ?_
                refine WC_seq ?_
                refine WC_region ?_
                refine WL_det rfl (det_idxR Try.underlying43 Try.sizeOf3 rfl rfl (rfl) (by rw [nv_len]; omega) (fun w hw => RdL.far hw (hrow i hi))) ?_
                dsimp only [put, List.set, ev, nth, List.nil_append, List.cons_append, md, Nat.reducePow, Nat.reduceAdd, Nat.reduceMul]
                refine WL_det rfl (det_loadR Try.isAgg3 rfl (fun w hw => RdL.far hw (hrow i hi)) (nv_at (O i) (by omega))) ?_
                dsimp only [put, List.set, ev, nth, List.nil_append, List.cons_append, md, Nat.reducePow, Nat.reduceAdd, Nat.reduceMul]
                refine WL_det rfl (det_assign) ?_
                dsimp only [put, List.set, ev, nth, List.nil_append, List.cons_append, md, Nat.reducePow, Nat.reduceAdd, Nat.reduceMul]
                refine WL_nil ?_
                refine WC_region ?_
                refine WL_det rfl (det_move) ?_
                dsimp only [put, List.set, ev, nth, List.nil_append, List.cons_append, md, Nat.reducePow, Nat.reduceAdd, Nat.reduceMul]
                refine WL_det rfl (det_move) ?_
                dsimp only [put, List.set, ev, nth, List.nil_append, List.cons_append, md, Nat.reducePow, Nat.reduceAdd, Nat.reduceMul]
                refine WL_det rfl (det_idxS0 Try.underlying43 Try.sizeOf3 rfl rfl (rfl) (hm)) ?_
                dsimp only [put, List.set, ev, nth, List.nil_append, List.cons_append, md, Nat.reducePow, Nat.reduceAdd, Nat.reduceMul]
                refine WL_det rfl (det_load 0 Try.isAgg3 rfl rfl (ivA_at _ (by rw [hEl]; exact hm))) ?_
                dsimp only [put, List.set, ev, nth, List.nil_append, List.cons_append, md, Nat.reducePow, Nat.reduceAdd, Nat.reduceMul]
                refine WL_det rfl (det_subz rfl rfl rfl (by omega) (by omega)) ?_
                dsimp only [put, List.set, ev, nth, List.nil_append, List.cons_append, md, Nat.reducePow, Nat.reduceAdd, Nat.reduceMul]
                refine WL_det rfl (det_idxS0 Try.underlying43 Try.sizeOf3 rfl rfl (rfl) (hm)) ?_
                dsimp only [put, List.set, ev, nth, List.nil_append, List.cons_append, md, Nat.reducePow, Nat.reduceAdd, Nat.reduceMul]
                refine WL_chg rfl (chg_storeC 0 (c' := ivA ((decL (D.set i (-1)) ((O i).take q)).set ((O i).getD q 0) ((decL (D.set i (-1)) ((O i).take q)).getD ((O i).getD q 0) 0 - 1))) Try.sizeOf3 rfl rfl (by rw [ivA_size, hEl]; exact hm) rfl rfl (ivA_set _ _ _)) ?_
                rintro _ _ rfl
                rw [← decL_step _ hc5]
                dsimp only [put, List.set, ev, nth, List.nil_append, List.cons_append, md, Nat.reducePow, Nat.reduceAdd, Nat.reduceMul]
                refine WL_nil ?_
                refine WC_region ?_
                refine WL_det rfl (det_addi (q := 1) rfl rfl (by omega)) ?_
                dsimp only [put, List.set, ev, nth, List.nil_append, List.cons_append, md, Nat.reducePow, Nat.reduceAdd, Nat.reduceMul]
                refine WL_det rfl (det_move) ?_
                dsimp only [put, List.set, ev, nth, List.nil_append, List.cons_append, md, Nat.reducePow, Nat.reduceAdd, Nat.reduceMul]
                refine WL_nil ?_
                refine ⟨q + 1, ?_, ?_, ?_, ?_⟩
                · rfl
                · rfl
                · omega
                · omega
              · have hc5 := of_decide_eq_false hc5
                obtain rfl : q = (O i).length := by omega
                rw [List.take_length]
                refine WC_exit ?_
                refine inB_same ?_
                refine ⟨(decL (D.set i (-1)) (O i), o ++ [i], v69, e69), ?_, ?_, ?_, ?_⟩
                · rfl
                · rfl
                · refine ⟨by rw [decL_len, List.length_set]; exact hDl, by dsimp only; rw [List.length_append, List.length_singleton]; omega, ?_, hr69, ?_⟩
                  · dsimp only
                    rw [List.length_append, List.length_singleton]
                    exact (decL_bd (O i) hBs (by omega)).mono (by have := hO i; omega) (Int.le_refl _)
                  · dsimp only
                    rw [List.length_append, List.length_singleton, show N.length - (o.length + 1) = f by omega]
                    exact hre
                · dsimp only; rw [List.length_append, List.length_singleton]; omega
        · have hc3 := of_decide_eq_false hc3
          rw [List.length_map] at hc3
          rw [show N.length - o.length = 0 by omega, ordR] at hre
          refine WC_exit ?_
          refine inB_same ?_
          refine WC_seq ?_
          refine WC_region ?_
          refine WL_det rfl (det_move) ?_
          dsimp only [put, List.set, ev, nth, List.nil_append, List.cons_append, md, Nat.reducePow, Nat.reduceAdd, Nat.reduceMul]
          refine WL_det rfl (det_assign) ?_
          dsimp only [put, List.set, ev, nth, List.nil_append, List.cons_append, md, Nat.reducePow, Nat.reduceAdd, Nat.reduceMul]
          refine WL_det rfl (det_assign) ?_
          dsimp only [put, List.set, ev, nth, List.nil_append, List.cons_append, md, Nat.reducePow, Nat.reduceAdd, Nat.reduceMul]
          refine WL_nil ?_
          refine WC_ret ?_
          refine fin_tmp2 Try.results34 rfl rfl ([e1]) (.cons _ (List.Sublist.refl _)) ?_
          exact ⟨v1, e1, by rw [hR, ← hre]; rfl, by rw [hR, ← hre]; exact h1, rfl⟩

end Go.Proofs.Ytocmlaloafmfkaa

set_option linter.unusedVariables false
namespace Go.Proofs.Ytocmlaloafmfkaa
open Go.MW
section
variable {α : Type} [DecidableEq α]
theorem pre_get {A B : List (α × Int)} (h : A <+: B) {i : Nat} {x : α × Int} (hx : A[i]? = some x) : B[i]? = some x := by
  obtain ⟨t, rfl⟩ := h
  rw [List.getElem?_append_left (List.getElem?_eq_some_iff.1 hx).1]; exact hx
/-- What the search keeps. -/
structure SrOk (es : List (α × α)) (F : List α) (A : List (α × Int)) : Prop where
  nodup : (A.map Prod.fst).Nodup
  back : BackOk A
  pre : seedA F <+: A
  seed : ∀ (i : Nat) (x : α × Int), A[i]? = some x → (x.2 = -1 ↔ i < (seedA F).length)
  edge : ∀ (i : Nat) (x : α × Int), A[i]? = some x → 0 ≤ x.2 → ∃ p, A[x.2.toNat]? = some p ∧ (p.1, x.1) ∈ es
theorem seed_back1 (F : List α) : ∀ x ∈ seedA F, x.2 = -1 := by
  unfold seedA
  suffices h : ∀ (l : List α) (A : List (α × Int)), (∀ x ∈ A, x.2 = -1) → ∀ x ∈ l.foldl (insA (-1)) A, x.2 = -1 from h F [] (fun x h => by simp at h)
  intro l
  induction l with
  | nil => exact fun A h => h
  | cons y l ih =>
    intro A h
    refine ih _ fun x hx => ?_
    unfold insA at hx
    split at hx
    · exact h x hx
    · rcases List.mem_append.1 hx with hx | hx
      · exact h x hx
      · simp at hx; subst hx; rfl
theorem SrOk.zero (es : List (α × α)) (F : List α) : SrOk es F (seedA F) where
  nodup := stA_nodup es F 0
  back := seed_back F
  pre := List.prefix_refl _
  seed i x h := ⟨fun _ => (List.getElem?_eq_some_iff.1 h).1, fun _ => seed_back1 F x (List.mem_of_getElem? h)⟩
  edge i x h h0 := by
    have := seed_back1 F x (List.mem_of_getElem? h)
    omega
theorem SrOk.ins {es : List (α × α)} {F : List α} {A : List (α × Int)} (h : SrOk es F A) {i : Nat} {p : α × Int} (hp : A[i]? = some p) {y : α} (he : (p.1, y) ∈ es) : SrOk es F (insA (i : Int) A y) := by
  have hi : i < A.length := (List.getElem?_eq_some_iff.1 hp).1
  have hl := h.pre.length_le
  by_cases hy : y ∈ A.map Prod.fst
  · rw [insA_old hy]; exact h
  have hap : A <+: insA (i : Int) A y := insA_pre _ _ _
  have hnd := insA_nodup (i := (i : Int)) h.nodup y
  have hbk := insA_back h.back (i := (i : Int)) (by omega) (by omega) y
  rw [insA_new hy] at hap hnd hbk ⊢
  have new : ∀ (k : Nat) (x : α × Int), (A ++ [(y, (i : Int))])[k]? = some x → A[k]? = some x ∨ (k = A.length ∧ x = (y, (i : Int))) := by
    intro k x hx
    by_cases hk : k < A.length
    · rw [List.getElem?_append_left hk] at hx; exact .inl hx
    · rw [List.getElem?_append_right (by omega)] at hx
      have e : k - A.length = 0 := by
        have := (List.getElem?_eq_some_iff.1 hx).1
        simp at this; omega
      rw [e] at hx
      simp at hx
      exact .inr ⟨by omega, hx.symm⟩
  refine ⟨hnd, hbk, h.pre.trans hap, fun k x hx => ?_, fun k x hx h0 => ?_⟩
  · rcases new k x hx with h1 | ⟨rfl, rfl⟩
    · exact h.seed k x h1
    · constructor
      · intro h0; dsimp only at h0; omega
      · intro h0; omega
  · rcases new k x hx with h1 | ⟨rfl, rfl⟩
    · obtain ⟨q, hq, h2⟩ := h.edge k x h1 h0
      exact ⟨q, pre_get hap hq, h2⟩
    · exact ⟨p, pre_get hap (by simpa using hp), he⟩
theorem SrOk.fold {es : List (α × α)} {F : List α} {i : Nat} {p : α × Int} : ∀ (l : List α) {A : List (α × Int)}, SrOk es F A → A[i]? = some p → (∀ y ∈ l, (p.1, y) ∈ es) → SrOk es F (l.foldl (insA (i : Int)) A)
  | [], _, h, _, _ => h
  | y :: l, _, h, hp, he => SrOk.fold l (h.ins hp (he y (by simp))) (pre_get (insA_pre _ _ _) hp) fun z hz => he z (by simp [hz])
theorem SrOk.st (es : List (α × α)) (F : List α) : ∀ i, SrOk es F (stA es F i)
  | 0 => SrOk.zero es F
  | i + 1 => by
    show SrOk es F (expA es i (stA es F i))
    unfold expA
    split
    · rename_i p hp
      exact (SrOk.st es F i).fold _ hp fun y hy => mem_succ.1 hy
    · exact SrOk.st es F i
theorem srch_ok (es : List (α × α)) (F : List α) : SrOk es F (srch es F) := SrOk.st es F _
/-- What can be come to. -/
inductive Rch (es : List (α × α)) (F : List α) : α → Prop
  | base {x : α} (h : x ∈ F) : Rch es F x
  | step {a b : α} (h : Rch es F a) (he : (a, b) ∈ es) : Rch es F b
theorem Rch.mono {es es' : List (α × α)} {F F' : List α} (h1 : ∀ e ∈ es, e ∈ es') (h2 : ∀ x ∈ F, x ∈ F') {x : α} (h : Rch es F x) : Rch es' F' x := by
  induction h with
  | base h => exact .base (h2 _ h)
  | step _ he ih => exact .step ih (h1 _ he)
theorem Rch.app {es : List (α × α)} {F G : List α} {x : α} (h : Rch es (F ++ G) x) : Rch es F x ∨ Rch es G x := by
  induction h with
  | base h =>
    rcases List.mem_append.1 h with h | h
    · exact .inl (.base h)
    · exact .inr (.base h)
  | step _ he ih =>
    rcases ih with h | h
    · exact .inl (.step h he)
    · exact .inr (.step h he)
end

end Go.Proofs.Ytocmlaloafmfkaa

set_option linter.unusedVariables false
namespace Go.Proofs.Ytocmlaloafmfkaa
open Go.MW
section
variable {α : Type} [DecidableEq α]
theorem getD_some {l : List α} {i : Nat} {a d : α} (h : l[i]? = some a) : l.getD i d = a := by rw [List.getD_eq_getElem?_getD, h]; rfl
end

end Go.Proofs.Ytocmlaloafmfkaa
