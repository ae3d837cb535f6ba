/- What the claim of this folder needs of its texts, put together by a program of this claim. Conditions: none. -/
import Derived.Test.YtocmlaloafmfkaaBLO11
set_option linter.unusedSectionVars false
set_option linter.unusedSimpArgs false
set_option linter.unusedVariables false
set_option linter.unusedVariables false
namespace Go.Proofs.Ytocmlaloafmfkaa
open Go.MW
theorem GW.far {α : Type} [DecidableEq α] {Kk : KeyK α} {tg gb : Nat} {es : List (α × α)} {w0 w : World} {m : Mem} (hw : Has w0 m w) (h : GW Kk tg gb es w0) : GW Kk tg gb es w := by
  obtain ⟨N, O, h1, h2⟩ := h
  exact ⟨N, O, h1, h2.far hw⟩

set_option maxRecDepth 100000 in
set_option maxHeartbeats 400000 in
theorem reachS_spec (gb : Nat) (es : List (Str × Str)) (F : List Str) (fv : Value) (hes : es.length ≤ 200) (hF : F.length ≤ 400) (w : World) (hG : GW strK 107 gb es w) (hf : RdL w (sv F) fv) :
    Calls Try.prog 38 [.pointer (some ⟨gb, 0, none⟩), fv].toArray w (Post w (fun v m => ∃ e, RowO 9 (sv ((srch es F).map Prod.fst)) v e ∧ m = [e])) := by
  refine calls_of_WC Try.func38 rfl ?_
  simp only [Try.ntmps38, List.length_cons, List.length_nil, Nat.reduceAdd, Nat.reduceSub, List.replicate, List.cons_append, List.nil_append]
  refine WC_seq ?_
  refine WC_region ?_
  refine WL_det rfl (det_assign) ?_
  dsimp only [put, List.set, ev, nth, List.nil_append, List.cons_append, md, Nat.reducePow, Nat.reduceAdd, Nat.reduceMul]
  refine WL_nil ?_
  refine WC_seq ?_
  refine WC_region ?_
  refine WL_det rfl (det_move) ?_
  dsimp only [put, List.set, ev, nth, List.nil_append, List.cons_append, md, Nat.reducePow, Nat.reduceAdd, Nat.reduceMul]
  refine WL_det rfl (det_move) ?_
  dsimp only [put, List.set, ev, nth, List.nil_append, List.cons_append, md, Nat.reducePow, Nat.reduceAdd, Nat.reduceMul]
  refine WL_rel rfl (Rel_call rfl Try.call61 (fun w hw => searchS_spec gb es F fv hes hF w (GW.far hw hG) (RdL.far hw hf))) ?_
  rintro _ _ ⟨v1, v2, e1, e2, rfl, h1, h2, rfl⟩
  dsimp only [put, List.append_nil, List.set, ev, nth, List.nil_append, List.cons_append, md, Nat.reducePow, Nat.reduceAdd, Nat.reduceMul]
  refine WL_det rfl (det_move) ?_
  dsimp only [put, List.set, ev, nth, List.nil_append, List.cons_append, md, Nat.reducePow, Nat.reduceAdd, Nat.reduceMul]
  refine WL_det rfl (det_extract rfl rfl) ?_
  dsimp only [put, List.set, ev, nth, List.nil_append, List.cons_append, md, Nat.reducePow, Nat.reduceAdd, Nat.reduceMul]
  refine WL_det rfl (det_extract rfl rfl) ?_
  dsimp only [put, List.set, ev, nth, List.nil_append, List.cons_append, md, Nat.reducePow, Nat.reduceAdd, Nat.reduceMul]
  refine WL_det rfl (det_assign) ?_
  dsimp only [put, List.set, ev, nth, List.nil_append, List.cons_append, md, Nat.reducePow, Nat.reduceAdd, Nat.reduceMul]
  refine WL_det rfl (det_assign) ?_
  dsimp only [put, List.set, ev, nth, List.nil_append, List.cons_append, md, Nat.reducePow, Nat.reduceAdd, Nat.reduceMul]
  refine WL_nil ?_
  refine WC_seq ?_
  refine WC_region ?_
  refine WL_det rfl (det_move) ?_
  dsimp only [put, List.set, ev, nth, List.nil_append, List.cons_append, md, Nat.reducePow, Nat.reduceAdd, Nat.reduceMul]
  refine WL_det rfl (det_assign) ?_
  dsimp only [put, List.set, ev, nth, List.nil_append, List.cons_append, md, Nat.reducePow, Nat.reduceAdd, Nat.reduceMul]
  refine WL_nil ?_
  refine WC_ret ?_
  refine fin_tmp Try.results38 rfl ([e1]) (.cons_cons _ (List.nil_sublist _)) ?_
  exact ⟨e1, h1, rfl⟩

end Go.Proofs.Ytocmlaloafmfkaa

set_option linter.unusedVariables false
namespace Go.Proofs.Ytocmlaloafmfkaa
open Go.MW
section
variable {α : Type} [DecidableEq α]
/-- What each was come to from stands ahead of it. -/
def BackOk (A : List (α × Int)) : Prop := ∀ (i : Nat) (x : α × Int), A[i]? = some x → -1 ≤ x.2 ∧ x.2 < (i : Int)
theorem insA_back {A : List (α × Int)} (h : BackOk A) {i : Int} (h1 : -1 ≤ i) (h2 : i < (A.length : Int)) (y : α) : BackOk (insA i A y) := by
  unfold insA; split
  · exact h
  · intro k x hx
    by_cases hk : k < A.length
    · rw [List.getElem?_append_left hk] at hx; exact h k x hx
    · rw [List.getElem?_append_right (by omega)] at hx
      have : k - A.length = 0 := by
        have := (List.getElem?_eq_some_iff.1 hx).1
        simp at this; omega
      rw [this] at hx
      simp at hx; subst hx
      exact ⟨h1, by show i < (k : Int); omega⟩
theorem fold_back {i : Int} (h1 : -1 ≤ i) : ∀ (l : List α) (A : List (α × Int)), i < (A.length : Int) → BackOk A → BackOk (l.foldl (insA i) A)
  | [], A, _, h => h
  | y :: l, A, h2, h => by
    refine fold_back h1 l _ ?_ (insA_back h h1 h2 y)
    have := (insA_pre i A y).length_le
    omega
theorem seed_back (F : List α) : BackOk (seedA F) := by
  unfold seedA
  suffices h : ∀ (l : List α) (A : List (α × Int)), BackOk A → BackOk (l.foldl (insA (-1)) A) from h F [] (fun i x h => by simp at h)
  intro l
  induction l with
  | nil => exact fun A h => h
  | cons y l ih => exact fun A h => ih _ (insA_back h (by omega) (by omega) y)
theorem stA_back (es : List (α × α)) (F : List α) : ∀ i, BackOk (stA es F i)
  | 0 => seed_back F
  | i + 1 => by
    show BackOk (expA es i (stA es F i))
    unfold expA
    split
    · rename_i x hx
      exact fold_back (by omega) _ _ (by have := (List.getElem?_eq_some_iff.1 hx).1; omega) (stA_back es F i)
    · exact stA_back es F i
end

end Go.Proofs.Ytocmlaloafmfkaa

set_option linter.unusedVariables false
namespace Go.Proofs.Ytocmlaloafmfkaa
open Go.MW
section
variable {α : Type} [DecidableEq α]
def chainF (A : List (α × Int)) : Nat → Nat → List α
  | 0, _ => []
  | f + 1, i => match A[i]? with
    | some x => x.1 :: (if x.2 < 0 then [] else chainF A f x.2.toNat)
    | none => []
/-- From place i back to one of the nodes begun with; the place is a number that may be -1. -/
def chainI (A : List (α × Int)) (i : Int) : List α := if i < 0 then [] else chainF A (i.toNat + 1) i.toNat
theorem chainF_fuel {A : List (α × Int)} (h : BackOk A) (i : Nat) : ∀ f, i < f → chainF A f i = chainF A (i + 1) i := by
  induction i using Nat.strongRecOn with
  | ind i ih =>
    intro f hf
    cases f with
    | zero => omega
    | succ f =>
      simp only [chainF]
      cases hx : A[i]? with
      | none => rfl
      | some x =>
        have hb := h i x hx
        by_cases hn : x.2 < 0
        · simp [hn]
        · simp only [hn, if_false]
          rw [ih _ (by omega) f (by omega), ih _ (by omega) i (by omega)]
theorem chainI_step {A : List (α × Int)} (h : BackOk A) {i : Nat} {x : α × Int} (hx : A[i]? = some x) : chainI A (i : Int) = x.1 :: chainI A x.2 := by
  have hb := h i x hx
  unfold chainI
  rw [if_neg (by omega), Int.toNat_natCast]
  simp only [chainF, hx]
  congr 1
  by_cases hn : x.2 < 0
  · simp [hn]
  · simp only [hn, if_false]
    exact chainF_fuel h _ _ (by omega)
theorem chain_len {A : List (α × Int)} (h : BackOk A) (i : Nat) : ∀ f, i < f → (chainF A f i).length ≤ i + 1 := by
  induction i using Nat.strongRecOn with
  | ind i ih =>
    intro f hf
    cases f with
    | zero => omega
    | succ f =>
      simp only [chainF]
      cases hx : A[i]? with
      | none => simp
      | some x =>
        have hb := h i x hx
        by_cases hn : x.2 < 0
        · simp [hn]
        · simp only [hn, if_false, List.length_cons]
          have := ih x.2.toNat (by omega) f (by omega)
          omega
theorem chainI_len {A : List (α × Int)} (h : BackOk A) (i : Nat) : (chainI A (i : Int)).length ≤ i + 1 := by
  unfold chainI
  rw [if_neg (by omega), Int.toNat_natCast]
  exact chain_len h i _ (by omega)
theorem chainI_pos {A : List (α × Int)} (h : BackOk A) {i : Nat} (hi : i < A.length) : 0 < (chainI A (i : Int)).length := by
  rw [chainI_step h (List.getElem?_eq_getElem hi)]
  simp
theorem getD_app_lt {o : List α} {y d : α} {k : Nat} (h : k < o.length) : (o ++ [y]).getD k d = o.getD k d := by
  rw [List.getD_eq_getElem?_getD, List.getD_eq_getElem?_getD, List.getElem?_append_left h]
theorem getD_app_eq {o : List α} {y d : α} : (o ++ [y]).getD o.length d = y := by simp [List.getD_eq_getElem?_getD]
/-- The path that the search tells. -/
def pathA (A : List (α × Int)) (i : Nat) : List α := (chainI A (i : Int)).reverse
theorem row_rev {t : TypeId} {f : α → Value} {d : α} {o : List α} {v : Value} {e : Option Nat × Obj} (h : RowV t o.length (fun i => (fun i => f (o.getD i d)) (o.length - 1 - i)) v e) : RowO t (o.reverse.map f) v e := by
  have := RowO.ofV h
  have e1 : (List.range o.length).map (fun i => (fun i => f (o.getD i d)) (o.length - 1 - i)) = o.reverse.map f := by
    apply List.ext_getElem?
    intro i
    by_cases hi : i < o.length
    · rw [List.getElem?_map, List.getElem?_range hi, List.getElem?_map, List.getElem?_reverse hi]
      simp [List.getD_eq_getElem?_getD, show o.length - 1 - i < o.length by omega]
    · rw [List.getElem?_eq_none (by simp; omega), List.getElem?_eq_none (by simp; omega)]
  rwa [e1] at this
end

end Go.Proofs.Ytocmlaloafmfkaa

set_option linter.unusedVariables false
namespace Go.Proofs.Ytocmlaloafmfkaa
open Go.MW
theorem revI_row {n : Nat} {g : Nat → Value} {v : Value} {e : Option Nat × Obj} (hn : 0 < n) (hnl : n ≤ 1000000) (h1 : ∀ i, i < n → (g i).oneCell' = true) (h : RowV 3 n g v e) {w0 : World} {m0 : Mem} {w : World} (hw : Has w0 (e :: m0) w) :
    Calls Try.prog 52 #[v] w (Post w0 fun v' m => ∃ e', (v' = .tuple #[] ∧ RowV 3 n (fun i => g (n - 1 - i)) v e') ∧ m = e' :: m0) := by
  obtain ⟨b, c, cur, rfl, rfl, hc, hm, hs, hcur⟩ := h.pos hn
  refine (revI_pos b n c cur g hn hnl (by omega) h1 hcur hw).mono ?_
  rintro e1 w' ⟨v', mi, rfl, ⟨es, ⟨rfl, cur', hs', hc', rfl⟩, rfl⟩, hh⟩
  exact ⟨_, _, rfl, ⟨_, ⟨rfl, .inr ⟨b, c, cur', rfl, rfl, hc, hm, by omega, hc'⟩⟩, rfl⟩, hh⟩

theorem revS_row {n : Nat} {g : Nat → Value} {v : Value} {e : Option Nat × Obj} (hn : 0 < n) (hnl : n ≤ 1000000) (h1 : ∀ i, i < n → (g i).oneCell' = true) (h : RowV 9 n g v e) {w0 : World} {m0 : Mem} {w : World} (hw : Has w0 (e :: m0) w) :
    Calls Try.prog 63 #[v] w (Post w0 fun v' m => ∃ e', (v' = .tuple #[] ∧ RowV 9 n (fun i => g (n - 1 - i)) v e') ∧ m = e' :: m0) := by
  obtain ⟨b, c, cur, rfl, rfl, hc, hm, hs, hcur⟩ := h.pos hn
  refine (revS_pos b n c cur g hn hnl (by omega) h1 hcur hw).mono ?_
  rintro e1 w' ⟨v', mi, rfl, ⟨es, ⟨rfl, cur', hs', hc', rfl⟩, rfl⟩, hh⟩
  exact ⟨_, _, rfl, ⟨_, ⟨rfl, .inr ⟨b, c, cur', rfl, rfl, hc, hm, by omega, hc'⟩⟩, rfl⟩, hh⟩

set_option maxRecDepth 100000 in
set_option maxHeartbeats 1000000 in
theorem pathI_yes (gb : Nat) (es : List (Int × Int)) (F : List Int) (fv : Value) (to : Int) (hes : es.length ≤ 200) (hF : F.length ≤ 400) (hto : to ∈ (srch es F).map Prod.fst) (w : World) (hG : GW intK 103 gb es w) (hf : RdL w (iv F) fv) :
    Calls Try.prog 25 [.pointer (some ⟨gb, 0, none⟩), .int .i64 to, fv].toArray w (Post w (fun v m => ∃ v1 e1, v = .tuple #[v1, .bool true] ∧ RowO 3 (iv (pathA (srch es F) (((srch es F).map Prod.fst).idxOf to))) v1 e1 ∧ m = [e1])) := by
  have hnl := nodes_len es
  have hbd : bndA es F ≤ 1000 := by unfold bndA; omega
  have hsl : (srch es F).length ≤ 1000 := Nat.le_trans (stA_len es F _) hbd
  have hix : idxI ((srch es F).map Prod.fst) to = (((((srch es F).map Prod.fst).idxOf to) : Nat) : Int) := if_pos hto
  have hil : (((srch es F).map Prod.fst).idxOf to) < (srch es F).length := by have := List.idxOf_lt_length_iff.2 hto; rwa [List.length_map] at this
  have hbk : BackOk (srch es F) := stA_back es F _
  refine calls_of_WC Try.func25 rfl ?_
  simp only [Try.ntmps25, List.length_cons, List.length_nil, Nat.reduceAdd, Nat.reduceSub, List.replicate, List.cons_append, List.nil_append]
  refine WC_seq ?_
  refine WC_region ?_
  refine WL_det rfl (det_assign) ?_
  dsimp only [put, List.set, ev, nth, List.nil_append, List.cons_append, md, Nat.reducePow, Nat.reduceAdd, Nat.reduceMul]
  refine WL_det rfl (det_assign) ?_
  dsimp only [put, List.set, ev, nth, List.nil_append, List.cons_append, md, Nat.reducePow, Nat.reduceAdd, Nat.reduceMul]
  refine WL_nil ?_
  refine WC_seq ?_
  refine WC_region ?_
  refine WL_det rfl (det_move) ?_
  dsimp only [put, List.set, ev, nth, List.nil_append, List.cons_append, md, Nat.reducePow, Nat.reduceAdd, Nat.reduceMul]
  refine WL_det rfl (det_move) ?_
  dsimp only [put, List.set, ev, nth, List.nil_append, List.cons_append, md, Nat.reducePow, Nat.reduceAdd, Nat.reduceMul]
  refine WL_rel rfl (Rel_call rfl Try.call50 (fun w hw => searchI_spec gb es F fv hes hF w (GW.far hw hG) (RdL.far hw hf))) ?_
  rintro _ _ ⟨v1, v2, e1, e2, rfl, h1, h2, rfl⟩
  dsimp only [put, List.append_nil, List.set, ev, nth, List.nil_append, List.cons_append, md, Nat.reducePow, Nat.reduceAdd, Nat.reduceMul]
  refine WL_det rfl (det_move) ?_
  dsimp only [put, List.set, ev, nth, List.nil_append, List.cons_append, md, Nat.reducePow, Nat.reduceAdd, Nat.reduceMul]
  refine WL_det rfl (det_extract rfl rfl) ?_
  dsimp only [put, List.set, ev, nth, List.nil_append, List.cons_append, md, Nat.reducePow, Nat.reduceAdd, Nat.reduceMul]
  refine WL_det rfl (det_extract rfl rfl) ?_
  dsimp only [put, List.set, ev, nth, List.nil_append, List.cons_append, md, Nat.reducePow, Nat.reduceAdd, Nat.reduceMul]
  refine WL_det rfl (det_assign) ?_
  dsimp only [put, List.set, ev, nth, List.nil_append, List.cons_append, md, Nat.reducePow, Nat.reduceAdd, Nat.reduceMul]
  refine WL_det rfl (det_assign) ?_
  dsimp only [put, List.set, ev, nth, List.nil_append, List.cons_append, md, Nat.reducePow, Nat.reduceAdd, Nat.reduceMul]
  refine WL_nil ?_
  refine WC_seq ?_
  refine WC_region ?_
  refine WL_det rfl (det_move) ?_
  dsimp only [put, List.set, ev, nth, List.nil_append, List.cons_append, md, Nat.reducePow, Nat.reduceAdd, Nat.reduceMul]
  refine WL_det rfl (det_move) ?_
  dsimp only [put, List.set, ev, nth, List.nil_append, List.cons_append, md, Nat.reducePow, Nat.reduceAdd, Nat.reduceMul]
  refine WL_rel rfl (Rel_call rfl Try.call51 (fun w hw => indexI_spec ((srch es F).map Prod.fst) to v1 (by rw [List.length_map]; omega) w (RowO.rd hw 0 rfl h1))) ?_
  rintro _ _ ⟨rfl, rfl⟩
  dsimp only [put, List.append_nil, List.set, ev, nth, List.nil_append, List.cons_append, md, Nat.reducePow, Nat.reduceAdd, Nat.reduceMul]
  refine WL_det rfl (det_assign) ?_
  dsimp only [put, List.set, ev, nth, List.nil_append, List.cons_append, md, Nat.reducePow, Nat.reduceAdd, Nat.reduceMul]
  refine WL_nil ?_
  rw [hix]
  refine WC_seq ?_
  refine WC_seq ?_
  refine WC_region ?_
  refine WL_det rfl (det_move) ?_
  dsimp only [put, List.set, ev, nth, List.nil_append, List.cons_append, md, Nat.reducePow, Nat.reduceAdd, Nat.reduceMul]
  refine WL_det rfl (Det.bv false (det_lssz rfl rfl) (decide_eq_false (by omega))) ?_
  dsimp only [put, List.set, ev, nth, List.nil_append, List.cons_append, md, Nat.reducePow, Nat.reduceAdd, Nat.reduceMul]
  refine WL_nil ?_
  refine WC_cond_false rfl ?_
  refine WC_skip ?_
  refine WC_seq ?_
  refine WC_region ?_
  refine WL_det rfl (det_assign) ?_
  dsimp only [put, List.set, ev, nth, List.nil_append, List.cons_append, md, Nat.reducePow, Nat.reduceAdd, Nat.reduceMul]
  refine WL_nil ?_
  refine WC_seq ?_
  refine WC_block ?_
  refine WC.addNone (.cells #[] 3 (0, 0)) ?_
  dsimp only [List.cons_append, List.nil_append]
  refine WC_loopS (ι := Int × List Int × Value × (Option Nat × Obj)) [23, 24, 29, 30, 31, 32, 33, 34, 35, 25, 26, 27, 28] (fun x => [(10, .int .i64 (x.1)), (11, x.2.2.1)]) (fun x => [(2, x.2.2.2)]) (fun x => (-1 ≤ x.1 ∧ x.1 < ((srch es F).length : Int)) ∧ x.2.1 ++ chainI (srch es F) x.1 = chainI (srch es F) ((((srch es F).map Prod.fst).idxOf to) : Nat) ∧ x.2.1.length + (x.1 + 1).toNat ≤ 1000000 ∧ RowV 3 (x.2.1).length (fun q => .int .i64 ((x.2.1).getD q 0)) x.2.2.1 x.2.2.2) (fun x => (x.1 + 1).toNat) ((((((srch es F).map Prod.fst).idxOf to) : Nat) : Int), [], .slice none 0 0, (none, .cells #[] 3 (0, 0))) ?_ ?_ ?_ ?_
  · rfl
  · rfl
  · exact ⟨⟨by dsimp only; omega, by dsimp only; omega⟩, rfl, by dsimp only [List.length_nil]; omega, RowV.nil _ _ _⟩
  · rintro ⟨i, o, v, e⟩ g' ⟨⟨hi1, hi2⟩, ho2, hol, hr⟩
    dsimp only [setAll, setG, setM, List.set]
    dsimp only at hi1 hi2 ho2 hol hr
    refine WC_seq ?_
    refine WC_seq ?_
    refine WC_region ?_
    refine WL_det rfl (det_move) ?_
    dsimp only [put, List.set, ev, nth, List.nil_append, List.cons_append, md, Nat.reducePow, Nat.reduceAdd, Nat.reduceMul]
    refine WL_det rfl (det_geqz rfl rfl) ?_
    dsimp only [put, List.set, ev, nth, List.nil_append, List.cons_append, md, Nat.reducePow, Nat.reduceAdd, Nat.reduceMul]
    refine WL_nil ?_
    refine WC_cond rfl (fun hc1 => ?_) (fun hc1 => ?_)
    · have hc1 := of_decide_eq_true hc1
      obtain ⟨xa, hxa⟩ : ∃ x, (srch es F)[i.toNat]? = some x := ⟨_, List.getElem?_eq_getElem (by omega)⟩
      have hb3 := hbk _ _ hxa
      have hx1 : (((srch es F).map Prod.fst).getD i.toNat 0) = xa.1 := by simp [List.getD_eq_getElem?_getD, hxa]
      have hx2 : (((srch es F).map Prod.snd).getD i.toNat 0) = xa.2 := by simp [List.getD_eq_getElem?_getD, hxa]
      have hst := chainI_step hbk hxa
      rw [Int.toNat_of_nonneg (by omega)] at hst
      refine WC_skip ?_
      refine WC_seq ?_
      refine WC_block ?_
      refine WC_region ?_
      refine WL_det rfl (det_move) ?_
      dsimp only [put, List.set, ev, nth, List.nil_append, List.cons_append, md, Nat.reducePow, Nat.reduceAdd, Nat.reduceMul]
      refine WL_det rfl (det_move) ?_
      dsimp only [put, List.set, ev, nth, List.nil_append, List.cons_append, md, Nat.reducePow, Nat.reduceAdd, Nat.reduceMul]
      refine WL_det rfl (det_move) ?_
      dsimp only [put, List.set, ev, nth, List.nil_append, List.cons_append, md, Nat.reducePow, Nat.reduceAdd, Nat.reduceMul]
      refine WL_det rfl (det_idxR (j := i.toNat) Try.underlying43 Try.sizeOf3 rfl rfl (by omega) (by rw [iv_len]; rw [List.length_map]; omega) (fun w hw => RowO.rd hw 0 rfl h1)) ?_
      dsimp only [put, List.set, ev, nth, List.nil_append, List.cons_append, md, Nat.reducePow, Nat.reduceAdd, Nat.reduceMul]
      refine WL_det rfl (det_loadR Try.isAgg3 rfl (fun w hw => RowO.rd hw 0 rfl h1) (iv_at ((srch es F).map Prod.fst) (by rw [List.length_map]; omega))) ?_
      dsimp only [put, List.set, ev, nth, List.nil_append, List.cons_append, md, Nat.reducePow, Nat.reduceAdd, Nat.reduceMul]
      refine WL_rel rfl (rel_lit1 Try.underlying43 Try.zeroValue3 Try.sizeOf3 rfl rfl) ?_
      rintro _ _ ⟨bl, rfl, rfl⟩
      dsimp only [put, List.set, ev, nth, List.nil_append, List.cons_append, md, Nat.reducePow, Nat.reduceAdd, Nat.reduceMul]
      refine WL_chg rfl (chg_append1 2 3 rfl (hr) rfl rfl rfl rfl Try.underlying43 ei3 rfl (by omega) (by decide)) ?_
      rintro v35 _ ⟨e35, hr35, rfl⟩
      dsimp only [put, List.eraseIdx, List.set, ev, nth, List.nil_append, List.cons_append, md, Nat.reducePow, Nat.reduceAdd, Nat.reduceMul]
      have hr35 : RowV 3 (o ++ [(((srch es F).map Prod.fst).getD i.toNat 0)]).length (fun q => .int .i64 ((o ++ [(((srch es F).map Prod.fst).getD i.toNat 0)]).getD q 0)) v35 e35 := by
        rw [List.length_append]
        refine hr35.congr fun k hk => ?_
        unfold catV
        by_cases h : k < o.length
        · rw [if_pos h, getD_app_lt h]
        · rw [if_neg h, show k = o.length by omega, getD_app_eq]
      refine WL_det rfl (det_assign) ?_
      dsimp only [put, List.set, ev, nth, List.nil_append, List.cons_append, md, Nat.reducePow, Nat.reduceAdd, Nat.reduceMul]
      refine WL_nil ?_
      refine WC_region ?_
      refine WL_det rfl (det_move) ?_
      dsimp only [put, List.set, ev, nth, List.nil_append, List.cons_append, md, Nat.reducePow, Nat.reduceAdd, Nat.reduceMul]
      refine WL_det rfl (det_move) ?_
      dsimp only [put, List.set, ev, nth, List.nil_append, List.cons_append, md, Nat.reducePow, Nat.reduceAdd, Nat.reduceMul]
      refine WL_det rfl (det_idxR (j := i.toNat) Try.underlying43 Try.sizeOf3 rfl rfl (by omega) (by rw [iv_len]; rw [List.length_map]; omega) (fun w hw => RowO.rd hw 1 rfl h2)) ?_
      dsimp only [put, List.set, ev, nth, List.nil_append, List.cons_append, md, Nat.reducePow, Nat.reduceAdd, Nat.reduceMul]
      refine WL_det rfl (det_loadR Try.isAgg3 rfl (fun w hw => RowO.rd hw 1 rfl h2) (iv_at ((srch es F).map Prod.snd) (by rw [List.length_map]; omega))) ?_
      dsimp only [put, List.set, ev, nth, List.nil_append, List.cons_append, md, Nat.reducePow, Nat.reduceAdd, Nat.reduceMul]
      refine WL_det rfl (det_assign) ?_
      dsimp only [put, List.set, ev, nth, List.nil_append, List.cons_append, md, Nat.reducePow, Nat.reduceAdd, Nat.reduceMul]
      refine WL_nil ?_
      refine ⟨((((srch es F).map Prod.snd).getD i.toNat 0), o ++ [(((srch es F).map Prod.fst).getD i.toNat 0)], v35, e35), ?_, ?_, ?_, ?_⟩
      · rfl
      · rfl
      · refine ⟨⟨by dsimp only; rw [hx2]; omega, by dsimp only; rw [hx2]; omega⟩, ?_, ?_, hr35⟩
        · dsimp only
          rw [hx1, hx2, List.append_assoc]
          rw [hst] at ho2
          exact ho2
        · dsimp only; rw [List.length_append, List.length_singleton]; omega
      · dsimp only; rw [hx2]; omega
    · have hc1 := of_decide_eq_false hc1
      have hend : chainI (srch es F) ((((srch es F).map Prod.fst).idxOf to) : Nat) = o := by rw [← ho2]; unfold chainI; rw [if_pos (by omega), List.append_nil]
      have hpos : 0 < o.length := by rw [← hend]; exact chainI_pos hbk hil
      refine WC_exit ?_
      refine inB_same ?_
      refine WC_seq ?_
      refine WC_region ?_
      refine WL_det rfl (det_move) ?_
      dsimp only [put, List.set, ev, nth, List.nil_append, List.cons_append, md, Nat.reducePow, Nat.reduceAdd, Nat.reduceMul]
      refine WL_chg rfl (Chg_callW 2 rfl Try.call52 rfl (fun w m0 hw => revI_row hpos (by have := chainI_len hbk (((srch es F).map Prod.fst).idxOf to); rw [hend] at this; omega) (fun i hi => rfl) hr hw)) ?_
      rintro _ _ ⟨ez, ⟨rfl, hz⟩, rfl⟩
      dsimp only [put, List.set, ev, nth, List.nil_append, List.cons_append, md, Nat.reducePow, Nat.reduceAdd, Nat.reduceMul]
      refine WL_nil ?_
      refine WC_seq ?_
      refine WC_region ?_
      refine WL_det rfl (det_move) ?_
      dsimp only [put, List.set, ev, nth, List.nil_append, List.cons_append, md, Nat.reducePow, Nat.reduceAdd, Nat.reduceMul]
      refine WL_det rfl (det_assign) ?_
      dsimp only [put, List.set, ev, nth, List.nil_append, List.cons_append, md, Nat.reducePow, Nat.reduceAdd, Nat.reduceMul]
      refine WL_det rfl (det_assign) ?_
      dsimp only [put, List.set, ev, nth, List.nil_append, List.cons_append, md, Nat.reducePow, Nat.reduceAdd, Nat.reduceMul]
      refine WL_nil ?_
      refine WC_ret ?_
      refine fin_tmp2 Try.results25 rfl rfl ([ez]) (.cons _ (.cons _ (List.Sublist.refl _))) ?_
      exact ⟨_, _, rfl, by unfold pathA; rw [hend]; exact row_rev hz, rfl⟩

set_option maxRecDepth 100000 in
set_option maxHeartbeats 1000000 in
theorem pathS_yes (gb : Nat) (es : List (Str × Str)) (F : List Str) (fv : Value) (to : Str) (hes : es.length ≤ 200) (hF : F.length ≤ 400) (hto : to ∈ (srch es F).map Prod.fst) (w : World) (hG : GW strK 107 gb es w) (hf : RdL w (sv F) fv) :
    Calls Try.prog 39 [.pointer (some ⟨gb, 0, none⟩), .string to, fv].toArray w (Post w (fun v m => ∃ v1 e1, v = .tuple #[v1, .bool true] ∧ RowO 9 (sv (pathA (srch es F) (((srch es F).map Prod.fst).idxOf to))) v1 e1 ∧ m = [e1])) := by
  have hnl := nodes_len es
  have hbd : bndA es F ≤ 1000 := by unfold bndA; omega
  have hsl : (srch es F).length ≤ 1000 := Nat.le_trans (stA_len es F _) hbd
  have hix : idxI ((srch es F).map Prod.fst) to = (((((srch es F).map Prod.fst).idxOf to) : Nat) : Int) := if_pos hto
  have hil : (((srch es F).map Prod.fst).idxOf to) < (srch es F).length := by have := List.idxOf_lt_length_iff.2 hto; rwa [List.length_map] at this
  have hbk : BackOk (srch es F) := stA_back es F _
  refine calls_of_WC Try.func39 rfl ?_
  simp only [Try.ntmps39, List.length_cons, List.length_nil, Nat.reduceAdd, Nat.reduceSub, List.replicate, List.cons_append, List.nil_append]
  refine WC_seq ?_
  refine WC_region ?_
  refine WL_det rfl (det_assign) ?_
  dsimp only [put, List.set, ev, nth, List.nil_append, List.cons_append, md, Nat.reducePow, Nat.reduceAdd, Nat.reduceMul]
  refine WL_det rfl (det_assign) ?_
  dsimp only [put, List.set, ev, nth, List.nil_append, List.cons_append, md, Nat.reducePow, Nat.reduceAdd, Nat.reduceMul]
  refine WL_nil ?_
  refine WC_seq ?_
  refine WC_region ?_
  refine WL_det rfl (det_move) ?_
  dsimp only [put, List.set, ev, nth, List.nil_append, List.cons_append, md, Nat.reducePow, Nat.reduceAdd, Nat.reduceMul]
  refine WL_det rfl (det_move) ?_
  dsimp only [put, List.set, ev, nth, List.nil_append, List.cons_append, md, Nat.reducePow, Nat.reduceAdd, Nat.reduceMul]
  refine WL_rel rfl (Rel_call rfl Try.call61 (fun w hw => searchS_spec gb es F fv hes hF w (GW.far hw hG) (RdL.far hw hf))) ?_
  rintro _ _ ⟨v1, v2, e1, e2, rfl, h1, h2, rfl⟩
  dsimp only [put, List.append_nil, List.set, ev, nth, List.nil_append, List.cons_append, md, Nat.reducePow, Nat.reduceAdd, Nat.reduceMul]
  refine WL_det rfl (det_move) ?_
  dsimp only [put, List.set, ev, nth, List.nil_append, List.cons_append, md, Nat.reducePow, Nat.reduceAdd, Nat.reduceMul]
  refine WL_det rfl (det_extract rfl rfl) ?_
  dsimp only [put, List.set, ev, nth, List.nil_append, List.cons_append, md, Nat.reducePow, Nat.reduceAdd, Nat.reduceMul]
  refine WL_det rfl (det_extract rfl rfl) ?_
  dsimp only [put, List.set, ev, nth, List.nil_append, List.cons_append, md, Nat.reducePow, Nat.reduceAdd, Nat.reduceMul]
  refine WL_det rfl (det_assign) ?_
  dsimp only [put, List.set, ev, nth, List.nil_append, List.cons_append, md, Nat.reducePow, Nat.reduceAdd, Nat.reduceMul]
  refine WL_det rfl (det_assign) ?_
  dsimp only [put, List.set, ev, nth, List.nil_append, List.cons_append, md, Nat.reducePow, Nat.reduceAdd, Nat.reduceMul]
  refine WL_nil ?_
  refine WC_seq ?_
  refine WC_region ?_
  refine WL_det rfl (det_move) ?_
  dsimp only [put, List.set, ev, nth, List.nil_append, List.cons_append, md, Nat.reducePow, Nat.reduceAdd, Nat.reduceMul]
  refine WL_det rfl (det_move) ?_
  dsimp only [put, List.set, ev, nth, List.nil_append, List.cons_append, md, Nat.reducePow, Nat.reduceAdd, Nat.reduceMul]
  refine WL_rel rfl (Rel_call rfl Try.call62 (fun w hw => indexS_spec ((srch es F).map Prod.fst) to v1 (by rw [List.length_map]; omega) w (RowO.rd hw 0 rfl h1))) ?_
  rintro _ _ ⟨rfl, rfl⟩
  dsimp only [put, List.append_nil, List.set, ev, nth, List.nil_append, List.cons_append, md, Nat.reducePow, Nat.reduceAdd, Nat.reduceMul]
  refine WL_det rfl (det_assign) ?_
  dsimp only [put, List.set, ev, nth, List.nil_append, List.cons_append, md, Nat.reducePow, Nat.reduceAdd, Nat.reduceMul]
  refine WL_nil ?_
  rw [hix]
  refine WC_seq ?_
  refine WC_seq ?_
  refine WC_region ?_
  refine WL_det rfl (det_move) ?_
  dsimp only [put, List.set, ev, nth, List.nil_append, List.cons_append, md, Nat.reducePow, Nat.reduceAdd, Nat.reduceMul]
  refine WL_det rfl (Det.bv false (det_lssz rfl rfl) (decide_eq_false (by omega))) ?_
  dsimp only [put, List.set, ev, nth, List.nil_append, List.cons_append, md, Nat.reducePow, Nat.reduceAdd, Nat.reduceMul]
  refine WL_nil ?_
  refine WC_cond_false rfl ?_
  refine WC_skip ?_
  refine WC_seq ?_
  refine WC_region ?_
  refine WL_det rfl (det_assign) ?_
  dsimp only [put, List.set, ev, nth, List.nil_append, List.cons_append, md, Nat.reducePow, Nat.reduceAdd, Nat.reduceMul]
  refine WL_nil ?_
  refine WC_seq ?_
  refine WC_block ?_
  refine WC.addNone (.cells #[] 9 (0, 0)) ?_
  dsimp only [List.cons_append, List.nil_append]
  refine WC_loopS (ι := Int × List Str × Value × (Option Nat × Obj)) [23, 24, 29, 30, 31, 32, 33, 34, 35, 25, 26, 27, 28] (fun x => [(10, .int .i64 (x.1)), (11, x.2.2.1)]) (fun x => [(2, x.2.2.2)]) (fun x => (-1 ≤ x.1 ∧ x.1 < ((srch es F).length : Int)) ∧ x.2.1 ++ chainI (srch es F) x.1 = chainI (srch es F) ((((srch es F).map Prod.fst).idxOf to) : Nat) ∧ x.2.1.length + (x.1 + 1).toNat ≤ 1000000 ∧ RowV 9 (x.2.1).length (fun q => .string ((x.2.1).getD q str0)) x.2.2.1 x.2.2.2) (fun x => (x.1 + 1).toNat) ((((((srch es F).map Prod.fst).idxOf to) : Nat) : Int), [], .slice none 0 0, (none, .cells #[] 9 (0, 0))) ?_ ?_ ?_ ?_
  · rfl
  · rfl
  · exact ⟨⟨by dsimp only; omega, by dsimp only; omega⟩, rfl, by dsimp only [List.length_nil]; omega, RowV.nil _ _ _⟩
  · rintro ⟨i, o, v, e⟩ g' ⟨⟨hi1, hi2⟩, ho2, hol, hr⟩
    dsimp only [setAll, setG, setM, List.set]
    dsimp only at hi1 hi2 ho2 hol hr
    refine WC_seq ?_
    refine WC_seq ?_
    refine WC_region ?_
    refine WL_det rfl (det_move) ?_
    dsimp only [put, List.set, ev, nth, List.nil_append, List.cons_append, md, Nat.reducePow, Nat.reduceAdd, Nat.reduceMul]
    refine WL_det rfl (det_geqz rfl rfl) ?_
    dsimp only [put, List.set, ev, nth, List.nil_append, List.cons_append, md, Nat.reducePow, Nat.reduceAdd, Nat.reduceMul]
    refine WL_nil ?_
    refine WC_cond rfl (fun hc1 => ?_) (fun hc1 => ?_)
    · have hc1 := of_decide_eq_true hc1
      obtain ⟨xa, hxa⟩ : ∃ x, (srch es F)[i.toNat]? = some x := ⟨_, List.getElem?_eq_getElem (by omega)⟩
      have hb3 := hbk _ _ hxa
      have hx1 : (((srch es F).map Prod.fst).getD i.toNat str0) = xa.1 := by simp [List.getD_eq_getElem?_getD, hxa]
      have hx2 : (((srch es F).map Prod.snd).getD i.toNat 0) = xa.2 := by simp [List.getD_eq_getElem?_getD, hxa]
      have hst := chainI_step hbk hxa
      rw [Int.toNat_of_nonneg (by omega)] at hst
      refine WC_skip ?_
      refine WC_seq ?_
      refine WC_block ?_
      refine WC_region ?_
      refine WL_det rfl (det_move) ?_
      dsimp only [put, List.set, ev, nth, List.nil_append, List.cons_append, md, Nat.reducePow, Nat.reduceAdd, Nat.reduceMul]
      refine WL_det rfl (det_move) ?_
      dsimp only [put, List.set, ev, nth, List.nil_append, List.cons_append, md, Nat.reducePow, Nat.reduceAdd, Nat.reduceMul]
      refine WL_det rfl (det_move) ?_
      dsimp only [put, List.set, ev, nth, List.nil_append, List.cons_append, md, Nat.reducePow, Nat.reduceAdd, Nat.reduceMul]
      refine WL_det rfl (det_idxR (j := i.toNat) Try.underlying22 Try.sizeOf9 rfl rfl (by omega) (by rw [sv_len]; rw [List.length_map]; omega) (fun w hw => RowO.rd hw 0 rfl h1)) ?_
      dsimp only [put, List.set, ev, nth, List.nil_append, List.cons_append, md, Nat.reducePow, Nat.reduceAdd, Nat.reduceMul]
      refine WL_det rfl (det_loadR Try.isAgg9 rfl (fun w hw => RowO.rd hw 0 rfl h1) (sv_at ((srch es F).map Prod.fst) (by rw [List.length_map]; omega))) ?_
      dsimp only [put, List.set, ev, nth, List.nil_append, List.cons_append, md, Nat.reducePow, Nat.reduceAdd, Nat.reduceMul]
      refine WL_rel rfl (rel_lit1 Try.underlying22 Try.zeroValue9 Try.sizeOf9 rfl rfl) ?_
      rintro _ _ ⟨bl, rfl, rfl⟩
      dsimp only [put, List.set, ev, nth, List.nil_append, List.cons_append, md, Nat.reducePow, Nat.reduceAdd, Nat.reduceMul]
      refine WL_chg rfl (chg_append1 2 3 rfl (hr) rfl rfl rfl rfl Try.underlying22 ei9 rfl (by omega) (by decide)) ?_
      rintro v35 _ ⟨e35, hr35, rfl⟩
      dsimp only [put, List.eraseIdx, List.set, ev, nth, List.nil_append, List.cons_append, md, Nat.reducePow, Nat.reduceAdd, Nat.reduceMul]
      have hr35 : RowV 9 (o ++ [(((srch es F).map Prod.fst).getD i.toNat str0)]).length (fun q => .string ((o ++ [(((srch es F).map Prod.fst).getD i.toNat str0)]).getD q str0)) v35 e35 := by
        rw [List.length_append]
        refine hr35.congr fun k hk => ?_
        unfold catV
        by_cases h : k < o.length
        · rw [if_pos h, getD_app_lt h]
        · rw [if_neg h, show k = o.length by omega, getD_app_eq]
      refine WL_det rfl (det_assign) ?_
      dsimp only [put, List.set, ev, nth, List.nil_append, List.cons_append, md, Nat.reducePow, Nat.reduceAdd, Nat.reduceMul]
      refine WL_nil ?_
      refine WC_region ?_
      refine WL_det rfl (det_move) ?_
      dsimp only [put, List.set, ev, nth, List.nil_append, List.cons_append, md, Nat.reducePow, Nat.reduceAdd, Nat.reduceMul]
      refine WL_det rfl (det_move) ?_
      dsimp only [put, List.set, ev, nth, List.nil_append, List.cons_append, md, Nat.reducePow, Nat.reduceAdd, Nat.reduceMul]
      refine WL_det rfl (det_idxR (j := i.toNat) Try.underlying43 Try.sizeOf3 rfl rfl (by omega) (by rw [iv_len]; rw [List.length_map]; omega) (fun w hw => RowO.rd hw 1 rfl h2)) ?_
      dsimp only [put, List.set, ev, nth, List.nil_append, List.cons_append, md, Nat.reducePow, Nat.reduceAdd, Nat.reduceMul]
      refine WL_det rfl (det_loadR Try.isAgg3 rfl (fun w hw => RowO.rd hw 1 rfl h2) (iv_at ((srch es F).map Prod.snd) (by rw [List.length_map]; omega))) ?_
      dsimp only [put, List.set, ev, nth, List.nil_append, List.cons_append, md, Nat.reducePow, Nat.reduceAdd, Nat.reduceMul]
      refine WL_det rfl (det_assign) ?_
      dsimp only [put, List.set, ev, nth, List.nil_append, List.cons_append, md, Nat.reducePow, Nat.reduceAdd, Nat.reduceMul]
      refine WL_nil ?_
      refine ⟨((((srch es F).map Prod.snd).getD i.toNat 0), o ++ [(((srch es F).map Prod.fst).getD i.toNat str0)], v35, e35), ?_, ?_, ?_, ?_⟩
      · rfl
      · rfl
      · refine ⟨⟨by dsimp only; rw [hx2]; omega, by dsimp only; rw [hx2]; omega⟩, ?_, ?_, hr35⟩
        · dsimp only
          rw [hx1, hx2, List.append_assoc]
          rw [hst] at ho2
          exact ho2
        · dsimp only; rw [List.length_append, List.length_singleton]; omega
      · dsimp only; rw [hx2]; omega
    · have hc1 := of_decide_eq_false hc1
      have hend : chainI (srch es F) ((((srch es F).map Prod.fst).idxOf to) : Nat) = o := by rw [← ho2]; unfold chainI; rw [if_pos (by omega), List.append_nil]
      have hpos : 0 < o.length := by rw [← hend]; exact chainI_pos hbk hil
      refine WC_exit ?_
      refine inB_same ?_
      refine WC_seq ?_
      refine WC_region ?_
      refine WL_det rfl (det_move) ?_
      dsimp only [put, List.set, ev, nth, List.nil_append, List.cons_append, md, Nat.reducePow, Nat.reduceAdd, Nat.reduceMul]
      refine WL_chg rfl (Chg_callW 2 rfl Try.call63 rfl (fun w m0 hw => revS_row hpos (by have := chainI_len hbk (((srch es F).map Prod.fst).idxOf to); rw [hend] at this; omega) (fun i hi => rfl) hr hw)) ?_
      rintro _ _ ⟨ez, ⟨rfl, hz⟩, rfl⟩
      dsimp only [put, List.set, ev, nth, List.nil_append, List.cons_append, md, Nat.reducePow, Nat.reduceAdd, Nat.reduceMul]
      refine WL_nil ?_
      refine WC_seq ?_
      refine WC_region ?_
      refine WL_det rfl (det_move) ?_
      dsimp only [put, List.set, ev, nth, List.nil_append, List.cons_append, md, Nat.reducePow, Nat.reduceAdd, Nat.reduceMul]
      refine WL_det rfl (det_assign) ?_
      dsimp only [put, List.set, ev, nth, List.nil_append, List.cons_append, md, Nat.reducePow, Nat.reduceAdd, Nat.reduceMul]
      refine WL_det rfl (det_assign) ?_
      dsimp only [put, List.set, ev, nth, List.nil_append, List.cons_append, md, Nat.reducePow, Nat.reduceAdd, Nat.reduceMul]
      refine WL_nil ?_
      refine WC_ret ?_
      refine fin_tmp2 Try.results39 rfl rfl ([ez]) (.cons _ (.cons _ (List.Sublist.refl _))) ?_
      exact ⟨_, _, rfl, by unfold pathA; rw [hend]; exact row_rev hz, rfl⟩

end Go.Proofs.Ytocmlaloafmfkaa
