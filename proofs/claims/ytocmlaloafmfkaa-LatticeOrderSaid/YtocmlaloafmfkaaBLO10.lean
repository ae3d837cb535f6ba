/- What the claim of this folder needs of its texts, put together by a program of this claim. Conditions: none. -/
import Derived.Test.YtocmlaloafmfkaaBLO9
set_option linter.unusedSectionVars false
set_option linter.unusedSimpArgs false
set_option linter.unusedVariables false
set_option linter.unusedVariables false
namespace Go.Proofs.Ytocmlaloafmfkaa
open Go.MW
section
variable {α : Type} [DecidableEq α]
def nodesE (es : List (α × α)) : List α := es.foldl (fun L e => addN (addN L e.1) e.2) []
def succ (es : List (α × α)) (a : α) : List α := (es.filter fun e => decide (e.1 = a)).map Prod.snd
def addE (es : List (α × α)) (e : α × α) : List (α × α) := if e ∈ es then es else es ++ [e]
def onceE (l : List (α × α)) : List (α × α) := l.foldl addE []
theorem nodes_snoc (es : List (α × α)) (e : α × α) : nodesE (es ++ [e]) = addN (addN (nodesE es) e.1) e.2 := by simp [nodesE]
theorem addN_mem_iff {L : List α} {x y : α} : y ∈ addN L x ↔ y ∈ L ∨ y = x := by
  unfold addN; split
  · rename_i h
    constructor
    · exact .inl
    · rintro (h2 | rfl)
      · exact h2
      · exact h
  · simp
theorem snoc_ind {β : Type} {p : List β → Prop} (h0 : p []) (h1 : ∀ l x, p l → p (l ++ [x])) (l : List β) : p l := by
  have : ∀ l : List β, p l.reverse := by
    intro l
    induction l with
    | nil => exact h0
    | cons x l ih => rw [List.reverse_cons]; exact h1 _ _ ih
  rw [← List.reverse_reverse l]; exact this _
theorem mem_nodes {es : List (α × α)} {x : α} : x ∈ nodesE es ↔ ∃ e ∈ es, e.1 = x ∨ e.2 = x := by
  refine snoc_ind (p := fun es => x ∈ nodesE es ↔ ∃ e ∈ es, e.1 = x ∨ e.2 = x) (by simp [nodesE]) (fun l e ih => ?_) es
  rw [nodes_snoc, addN_mem_iff, addN_mem_iff, ih]
  constructor
  · rintro ((⟨e', h, h2⟩ | rfl) | rfl)
    · exact ⟨e', by simp [h], h2⟩
    · exact ⟨e, by simp, .inl rfl⟩
    · exact ⟨e, by simp, .inr rfl⟩
  · rintro ⟨e', h, h2⟩
    rw [List.mem_append, List.mem_singleton] at h
    rcases h with h | rfl
    · exact .inl (.inl ⟨e', h, h2⟩)
    · rcases h2 with rfl | rfl
      · exact .inl (.inr rfl)
      · exact .inr rfl
theorem nodes_nodup (es : List (α × α)) : (nodesE es).Nodup := snoc_ind (p := fun es => (nodesE es).Nodup) (by simp [nodesE]) (fun l e ih => by rw [nodes_snoc]; exact addN_nodup (addN_nodup ih _) _) es
theorem nodes_len (es : List (α × α)) : (nodesE es).length ≤ 2 * es.length := snoc_ind (p := fun es => (nodesE es).length ≤ 2 * es.length) (by simp [nodesE]) (fun l e ih => by
  rw [nodes_snoc, List.length_append, List.length_singleton]
  have h1 := addN_len (nodesE l) e.1
  have h2 := addN_len (addN (nodesE l) e.1) e.2
  omega) es
theorem succ_snoc (es : List (α × α)) (e : α × α) (a : α) : succ (es ++ [e]) a = succ es a ++ if e.1 = a then [e.2] else [] := by
  unfold succ
  rw [List.filter_append, List.map_append]
  congr 1
  by_cases h : e.1 = a <;> simp [h]
theorem mem_succ {es : List (α × α)} {a b : α} : b ∈ succ es a ↔ (a, b) ∈ es := by
  unfold succ
  rw [List.mem_map]
  constructor
  · rintro ⟨e, he, rfl⟩
    rw [List.mem_filter] at he
    have := of_decide_eq_true he.2
    subst this
    exact he.1
  · intro h
    exact ⟨(a, b), List.mem_filter.2 ⟨h, by simp⟩, rfl⟩
theorem succ_none {es : List (α × α)} {a : α} (h : a ∉ nodesE es) : succ es a = [] := by
  cases hs : succ es a with
  | nil => rfl
  | cons b l =>
    exfalso
    have : b ∈ succ es a := by rw [hs]; simp
    exact h (mem_nodes.2 ⟨_, mem_succ.1 this, .inl rfl⟩)
theorem succ_len (es : List (α × α)) (a : α) : (succ es a).length ≤ es.length := by unfold succ; rw [List.length_map]; exact List.length_filter_le _ _
theorem succ_node {es : List (α × α)} {a b : α} (h : b ∈ succ es a) : b ∈ nodesE es := mem_nodes.2 ⟨_, mem_succ.1 h, .inr rfl⟩
/-- What a graph's nodes and rows say of its edges. -/
structure IsG (es : List (α × α)) (N : List α) (O : Nat → List Nat) : Prop where
  nodes : N = nodesE es
  rest : ∀ i, N.length ≤ i → O i = []
  row : ∀ i a, N[i]? = some a → O i = (succ es a).map N.idxOf
theorem IsG.nil : IsG ([] : List (α × α)) [] (fun _ => []) := ⟨rfl, fun _ _ => rfl, fun i a h => by simp at h⟩
theorem addN_get {L : List α} {x : α} {i : Nat} {y : α} (h : L[i]? = some y) : (addN L x)[i]? = some y := by
  unfold addN; split
  · exact h
  · rw [List.getElem?_append_left (List.getElem?_eq_some_iff.1 h).1]; exact h
theorem get_idx {N : List α} {a : α} (h : a ∈ N) : N[N.idxOf a]? = some a := by
  have h1 := List.idxOf_lt_length_iff.2 h
  rw [List.getElem?_eq_getElem h1, List.getElem_idxOf h1]
theorem idx_get {N : List α} (hn : N.Nodup) {i : Nat} {a : α} (h : N[i]? = some a) : N.idxOf a = i := by
  obtain ⟨hi, rfl⟩ := List.getElem?_eq_some_iff.1 h
  exact hn.idxOf_getElem i hi
theorem IsG.step {es : List (α × α)} {N : List α} {O : Nat → List Nat} (h : IsG es N O) (a b : α) :
    IsG (es ++ [(a, b)]) (addN (addN N a) b) (up O ((addN N a).idxOf a) (O ((addN N a).idxOf a) ++ [(addN (addN N a) b).idxOf b])) := by
  have hN2 : addN (addN N a) b = nodesE (es ++ [(a, b)]) := by rw [nodes_snoc, ← h.nodes]
  have hnd : (addN (addN N a) b).Nodup := by rw [hN2]; exact nodes_nodup _
  have ha1 : a ∈ addN N a := addN_mem N a
  have hia : (addN (addN N a) b).idxOf a = (addN N a).idxOf a := addN_idx ha1
  have hidx : ∀ x ∈ N, (addN (addN N a) b).idxOf x = N.idxOf x := fun x hx => (addN_idx (addN_sub hx)).trans (addN_idx hx)
  have hmap : ∀ x, (succ es x).map (addN (addN N a) b).idxOf = (succ es x).map N.idxOf := fun x => List.map_congr_left fun y hy => hidx y (by rw [h.nodes]; exact succ_node hy)
  have hOx : ∀ i x, (addN (addN N a) b)[i]? = some x → O i = (succ es x).map (addN (addN N a) b).idxOf := by
    intro i x hx
    by_cases hi : i < N.length
    · have h0 : N[i]? = some N[i] := List.getElem?_eq_getElem hi
      have : (addN (addN N a) b)[i]? = some N[i] := addN_get (addN_get h0)
      rw [this] at hx
      simp only [Option.some.injEq] at hx
      subst hx
      rw [hmap, h.row i _ h0]
    · rw [h.rest i (by omega)]
      have hxN : x ∉ N := by
        intro hm
        have h1 := hidx x hm
        rw [idx_get hnd hx] at h1
        have := List.idxOf_lt_length_iff.2 hm
        omega
      rw [succ_none (by rw [← h.nodes]; exact hxN)]
      rfl
  refine ⟨hN2, fun i hi => ?_, fun i x hx => ?_⟩
  · have h1 := addN_idx_lt N a b
    have h2 := addN_ge N a
    have h3 := addN_ge (addN N a) b
    rw [up_ne _ _ (by omega)]
    exact h.rest i (by omega)
  · rw [succ_snoc, List.map_append, ← hOx i x hx]
    by_cases e : i = (addN N a).idxOf a
    · subst e
      have hax : a = x := by
        have h1 : (addN (addN N a) b)[(addN N a).idxOf a]? = some a := by rw [← hia]; exact get_idx (addN_sub ha1)
        rw [h1] at hx; simpa using hx
      rw [up_self, if_pos hax]
      rfl
    · have hax : ¬ a = x := by
        rintro rfl
        exact e (by rw [← hia]; exact (idx_get hnd hx).symm)
      rw [up_ne _ _ e, if_neg hax]
      simp
theorem IsG.has {es : List (α × α)} {N : List α} {O : Nat → List Nat} (h : IsG es N O) (a b : α) : hasB N O a b = decide ((a, b) ∈ es) := by
  unfold hasB
  by_cases ha : a ∈ N
  · by_cases hb : b ∈ N
    · have hr := h.row _ _ (get_idx ha)
      have e1 : ixv N a = N.idxOf a := if_pos ha
      have e2 : ixv N b = N.idxOf b := if_pos hb
      rw [e1, e2, hr]
      simp only [ha, hb, decide_true, Bool.true_and]
      rw [Bool.eq_iff_iff]
      simp only [decide_eq_true_eq, List.mem_map]
      constructor
      · rintro ⟨x, hx, he⟩
        have hxN : x ∈ N := by rw [h.nodes]; exact succ_node hx
        have g1 := get_idx hxN
        rw [he, get_idx hb] at g1
        simp only [Option.some.injEq] at g1
        subst g1
        exact mem_succ.1 hx
      · intro hm
        exact ⟨b, mem_succ.2 hm, rfl⟩
    · have : (a, b) ∉ es := fun hm => hb (by rw [h.nodes]; exact mem_nodes.2 ⟨_, hm, .inr rfl⟩)
      simp [hb, this]
  · have : (a, b) ∉ es := fun hm => ha (by rw [h.nodes]; exact mem_nodes.2 ⟨_, hm, .inl rfl⟩)
    simp [ha, this]
theorem IsG.olen {es : List (α × α)} {N : List α} {O : Nat → List Nat} (h : IsG es N O) (i : Nat) : (O i).length ≤ es.length := by
  by_cases hi : i < N.length
  · rw [h.row i _ (List.getElem?_eq_getElem hi), List.length_map]; exact succ_len _ _
  · rw [h.rest i (by omega)]; exact Nat.zero_le _
end

end Go.Proofs.Ytocmlaloafmfkaa

set_option linter.unusedVariables false
namespace Go.Proofs.Ytocmlaloafmfkaa
open Go.MW
/-- A graph of these edges. -/
def GR {α : Type} [DecidableEq α] (Kk : KeyK α) (te tg gb : Nat) (es : List (α × α)) (M : Mem) : Prop := ∃ N O, IsG es N O ∧ GM Kk te tg gb N O es.length M
def GW {α : Type} [DecidableEq α] (Kk : KeyK α) (tg gb : Nat) (es : List (α × α)) (w : World) : Prop := ∃ N O, IsG es N O ∧ GF Kk tg gb N O es.length w
theorem GR.facts {α : Type} [DecidableEq α] {Kk : KeyK α} {te tg gb : Nat} {es : List (α × α)} {M mm : Mem} {w0 w : World} (h : GR Kk te tg gb es M) (hw : Has w0 (M ++ mm) w) : GW Kk tg gb es w := by
  obtain ⟨N, O, h1, h2⟩ := h
  exact ⟨N, O, h1, h2.facts hw⟩
theorem GR.nil {α : Type} [DecidableEq α] (Kk : KeyK α) (te tg gb mb : Nat) : GR Kk te tg gb [] ((some gb, .cells #[.map (some mb), .slice none 0 0, .slice none 0 0, vn .i64 0] tg (0, 0)) :: (some mb, .map #[] 0) :: (none, .cells #[] te (0, 0)) :: (none, .cells #[] 43 (0, 0)) :: []) :=
  ⟨[], _, IsG.nil, mb, _, _, fun _ => undef, _, _, fun _ => (none, .cells #[] 3 (0, 0)), rfl, RowO.nil _ _, RowO.nil _ _, fun a ha => absurd ha (Nat.not_lt_zero _)⟩

theorem edgeGI {gb : Nat} {es : List (Int × Int)} {M : Mem} {w0 : World} (hM : GR intK 3 103 gb es M) (hn : es.length ≤ 400) (a b : Int) :
    ∀ w mm, Has w0 (M ++ mm) w → Calls Try.prog 28 #[.pointer (some ⟨gb, 0, none⟩), .int .i64 a, .int .i64 b] w (Post w0 fun v m => ∃ m1, (v = vn .i64 0 ∧ GR intK 3 103 gb (addE es (a, b)) m1) ∧ m = m1 ++ mm) := by
  intro w mm hw
  obtain ⟨N, O, hG, hM⟩ := hM
  have hN : N.length ≤ 800 := by rw [hG.nodes]; have := nodes_len es; omega
  have hO : ∀ i, (O i).length ≤ 1000 := fun i => by have := hG.olen i; omega
  by_cases hab : (a, b) ∈ es
  · have hA : addE es (a, b) = es := if_pos hab
    refine (edgeI_old gb N O es.length (by omega) hO a b (by rw [hG.has]; exact decide_eq_true hab) w (hM.facts hw)).mono ?_
    rintro e1 w' ⟨v, mi, rfl, ⟨rfl, rfl⟩, hh⟩
    rw [hA]
    exact ⟨_, _, rfl, ⟨M, ⟨rfl, N, O, hG, hM⟩, rfl⟩, by simpa only [List.append_nil] using hw.trans hh⟩
  · have hA : addE es (a, b) = es ++ [(a, b)] := if_neg hab
    refine (edgeI_new gb N O es.length (by omega) (by omega) hO hG.rest M hM a b (by rw [hG.has]; exact decide_eq_false hab) hw).mono ?_
    rintro e1 w' ⟨v, mi, rfl, ⟨m1, ⟨rfl, h1⟩, rfl⟩, hh⟩
    rw [hA]
    exact ⟨_, _, rfl, ⟨m1, ⟨rfl, _, _, hG.step a b, by rw [List.length_append]; exact h1⟩, rfl⟩, hh⟩

theorem edgeGS {gb : Nat} {es : List (Str × Str)} {M : Mem} {w0 : World} (hM : GR strK 9 107 gb es M) (hn : es.length ≤ 400) (a b : Str) :
    ∀ w mm, Has w0 (M ++ mm) w → Calls Try.prog 37 #[.pointer (some ⟨gb, 0, none⟩), .string a, .string b] w (Post w0 fun v m => ∃ m1, (v = vn .i64 0 ∧ GR strK 9 107 gb (addE es (a, b)) m1) ∧ m = m1 ++ mm) := by
  intro w mm hw
  obtain ⟨N, O, hG, hM⟩ := hM
  have hN : N.length ≤ 800 := by rw [hG.nodes]; have := nodes_len es; omega
  have hO : ∀ i, (O i).length ≤ 1000 := fun i => by have := hG.olen i; omega
  by_cases hab : (a, b) ∈ es
  · have hA : addE es (a, b) = es := if_pos hab
    refine (edgeS_old gb N O es.length (by omega) hO a b (by rw [hG.has]; exact decide_eq_true hab) w (hM.facts hw)).mono ?_
    rintro e1 w' ⟨v, mi, rfl, ⟨rfl, rfl⟩, hh⟩
    rw [hA]
    exact ⟨_, _, rfl, ⟨M, ⟨rfl, N, O, hG, hM⟩, rfl⟩, by simpa only [List.append_nil] using hw.trans hh⟩
  · have hA : addE es (a, b) = es ++ [(a, b)] := if_neg hab
    refine (edgeS_new gb N O es.length (by omega) (by omega) hO hG.rest M hM a b (by rw [hG.has]; exact decide_eq_false hab) hw).mono ?_
    rintro e1 w' ⟨v, mi, rfl, ⟨m1, ⟨rfl, h1⟩, rfl⟩, hh⟩
    rw [hA]
    exact ⟨_, _, rfl, ⟨m1, ⟨rfl, _, _, hG.step a b, by rw [List.length_append]; exact h1⟩, rfl⟩, hh⟩

theorem addE_len {α : Type} [DecidableEq α] (es : List (α × α)) (e : α × α) : (addE es e).length ≤ es.length + 1 := by unfold addE; split <;> simp
theorem once_len {α : Type} [DecidableEq α] (l : List (α × α)) : (onceE l).length ≤ l.length := snoc_ind (p := fun l => (onceE l).length ≤ l.length) (by simp [onceE]) (fun l e ih => by
  have : onceE (l ++ [e]) = addE (onceE l) e := by simp [onceE]
  rw [this, List.length_append, List.length_singleton]
  have := addE_len (onceE l) e
  omega) l
theorem once_take {L : List (Int × Int)} {k : Nat} (h : k < L.length) : onceE (L.take (k + 1)) = addE (onceE (L.take k)) ((L.getD k (0, 0)).1, (L.getD k (0, 0)).2) := by
  unfold onceE
  rw [List.take_succ_eq_append_getElem h, List.foldl_append, List.getD_eq_getElem?_getD, List.getElem?_eq_getElem h]
  rfl
theorem i59 : (Try.prog.info? 59).map (·.size) = some 2 := by kernel_rfl

set_option maxRecDepth 100000 in
set_option maxHeartbeats 400000 in
theorem graph_spec (L : List (Int × Int)) (v : Value) (hL : L.length ≤ 100) {w0 : World} {m0 : Mem} {w : World} (hw0 : Has w0 (m0) w) (hr : RdP w0 L v) :
    Calls Try.prog 24 [v].toArray w (Post w0 fun v m => ∃ m1, (∃ gb, v = .pointer (some ⟨gb, 0, none⟩) ∧ GR intK 3 103 gb (onceE L) m1) ∧ m = m1 ++ m0) := by
  refine calls_of_WCm Try.func24 rfl ?_ hw0
  simp only [Try.ntmps24, List.length_cons, List.length_nil, Nat.reduceAdd, Nat.reduceSub, List.replicate, List.cons_append, List.nil_append]
  refine WC_seq ?_
  refine WC_region ?_
  refine WL_det rfl (det_assign) ?_
  dsimp only [put, List.take, List.drop, List.set, ev, nth, List.nil_append, List.cons_append, md, Nat.reducePow, Nat.reduceAdd, Nat.reduceMul]
  refine WL_nil ?_
  refine WC_seq ?_
  refine WC_region ?_
  refine WL_relAt 0 rfl (Rel_call rfl Try.call49 (fun w hw => newG_spec w)) ?_
  rintro _ _ ⟨gb, mb, rfl, rfl⟩
  dsimp only [put, List.append_nil, List.take, List.drop, List.set, ev, nth, List.nil_append, List.cons_append, md, Nat.reducePow, Nat.reduceAdd, Nat.reduceMul]
  try simp only [List.append_nil]
  refine WL_det rfl (det_assign) ?_
  dsimp only [put, List.take, List.drop, List.set, ev, nth, List.nil_append, List.cons_append, md, Nat.reducePow, Nat.reduceAdd, Nat.reduceMul]
  refine WL_nil ?_
  refine WC.addNoneAt 2 (.cells #[] 3 (0, 0)) ?_
  refine WC.addNoneAt 3 (.cells #[] 43 (0, 0)) ?_
  dsimp only [List.take, List.drop, List.cons_append, List.nil_append]
  refine WC.perm (m' := ((some gb, .cells #[.map (some mb), .slice none 0 0, .slice none 0 0, vn .i64 0] 103 (0, 0)) :: (some mb, .map #[] 0) :: (none, .cells #[] 3 (0, 0)) :: (none, .cells #[] 43 (0, 0)) :: []) ++ m0) (List.Perm.swap _ _ _) ?_
  have hM0 := GR.nil intK 3 103 gb mb
  generalize ((some gb, Obj.cells #[Value.map (some mb), .slice none 0 0, .slice none 0 0, vn .i64 0] 103 (0, 0)) :: (some mb, Obj.map #[] 0) :: (none, Obj.cells #[] 3 (0, 0)) :: (none, Obj.cells #[] 43 (0, 0)) :: [] : Mem) = Mi at hM0 ⊢
  refine WC_seq ?_
  refine WC_seq ?_
  refine WC_region ?_
  refine WL_det rfl (det_move) ?_
  dsimp only [put, List.take, List.drop, List.set, ev, nth, List.nil_append, List.cons_append, md, Nat.reducePow, Nat.reduceAdd, Nat.reduceMul]
  refine WL_det rfl (det_lenP Try.underlying52 rfl (fun w hw => RdP.far hw hr)) ?_
  dsimp only [put, List.take, List.drop, List.set, ev, nth, List.nil_append, List.cons_append, md, Nat.reducePow, Nat.reduceAdd, Nat.reduceMul]
  refine WL_det rfl (det_move) ?_
  dsimp only [put, List.take, List.drop, List.set, ev, nth, List.nil_append, List.cons_append, md, Nat.reducePow, Nat.reduceAdd, Nat.reduceMul]
  refine WL_nil ?_
  refine WC_block ?_
  refine WC_loopF (ι := Nat × Mem) [10, 11, 12, 5, 13, 14, 15, 16, 17, 18, 19] (fun x => [(9, vn .i64 (x.1))]) (fun x => x.2 ++ m0) (fun x => x.1 ≤ L.length ∧ GR intK 3 103 gb (onceE (L.take x.1)) x.2) (fun x => L.length - x.1) (0, Mi) ?_ ?_ ?_ ?_
  · rfl
  · rfl
  · exact ⟨Nat.zero_le _, hM0⟩
  · rintro ⟨k, M⟩ g' ⟨hk, hM⟩
    dsimp only [setAll, setG, setM, List.set]
    dsimp only at hk hM
    refine WC_seq ?_
    refine WC_region ?_
    refine WL_det rfl (det_lss rfl rfl) ?_
    dsimp only [put, List.take, List.drop, List.set, ev, nth, List.nil_append, List.cons_append, md, Nat.reducePow, Nat.reduceAdd, Nat.reduceMul]
    refine WL_nil ?_
    refine WC_seq ?_
    refine WC_cond rfl (fun hc0 => ?_) (fun hc0 => ?_)
    · have hc0 := of_decide_eq_true hc0
      refine WC_skip ?_
      refine WC_seq ?_
      refine WC_block ?_
      refine WC_seq ?_
      refine WC_region ?_
      refine WL_det rfl (det_idxP Try.underlying52 Try.sizeOf59 rfl rfl (rfl) (by omega) (fun w hw => RdP.far hw hr)) ?_
      dsimp only [put, List.take, List.drop, List.set, ev, nth, List.nil_append, List.cons_append, md, Nat.reducePow, Nat.reduceAdd, Nat.reduceMul]
      refine WL_det rfl (det_loadP Try.underlying59 rfl i59 rfl (fun w hw => RdP.far hw hr) (by omega)) ?_
      dsimp only [put, List.take, List.drop, List.set, ev, nth, List.nil_append, List.cons_append, md, Nat.reducePow, Nat.reduceAdd, Nat.reduceMul]
      refine WL_relAt 0 rfl (rel_alloc Try.zeroValue59 rfl) ?_
      rintro _ _ ⟨b0, rfl, rfl⟩
      dsimp only [put, List.take, List.drop, List.set, ev, nth, List.nil_append, List.cons_append, md, Nat.reducePow, Nat.reduceAdd, Nat.reduceMul]
      refine WL_chg rfl (chg_storeWn 0 _ rfl rfl rfl Try.sizeOf59 rfl rfl rfl (pk_one _)) ?_
      rintro _ _ rfl
      dsimp only [put, List.take, List.drop, List.set, ev, nth, List.nil_append, List.cons_append, md, Nat.reducePow, Nat.reduceAdd, Nat.reduceMul]
      refine WL_nil ?_
      refine WC_region ?_
      refine WL_det rfl (det_move) ?_
      dsimp only [put, List.take, List.drop, List.set, ev, nth, List.nil_append, List.cons_append, md, Nat.reducePow, Nat.reduceAdd, Nat.reduceMul]
      refine WL_det rfl (det_idxA (j := 0) Try.underlying59 Try.sizeOf3 rfl rfl (rfl) (by omega)) ?_
      dsimp only [put, List.take, List.drop, List.set, ev, nth, List.nil_append, List.cons_append, md, Nat.reducePow, Nat.reduceAdd, Nat.reduceMul]
      refine WL_det rfl (det_load 0 Try.isAgg3 rfl rfl rfl) ?_
      dsimp only [put, List.take, List.drop, List.set, ev, nth, List.nil_append, List.cons_append, md, Nat.reducePow, Nat.reduceAdd, Nat.reduceMul]
      refine WL_det rfl (det_idxA (j := 1) Try.underlying59 Try.sizeOf3 rfl rfl (rfl) (by omega)) ?_
      dsimp only [put, List.take, List.drop, List.set, ev, nth, List.nil_append, List.cons_append, md, Nat.reducePow, Nat.reduceAdd, Nat.reduceMul]
      refine WL_det rfl (det_load 0 Try.isAgg3 rfl rfl rfl) ?_
      dsimp only [put, List.take, List.drop, List.set, ev, nth, List.nil_append, List.cons_append, md, Nat.reducePow, Nat.reduceAdd, Nat.reduceMul]
      refine WL_chg rfl (Chg_callT [_] _ _ rfl Try.call28 rfl (fun w mm hw => edgeGI hM (by have := once_len (L.take k); rw [List.length_take] at this; omega) _ _ w mm hw)) ?_
      rintro _ _ ⟨M1, ⟨rfl, hM1⟩, rfl⟩
      dsimp only [put, setM, List.zip, List.zipWith, List.take, List.drop, List.append_nil, List.set, ev, nth, List.nil_append, List.cons_append, md, Nat.reducePow, Nat.reduceAdd, Nat.reduceMul]
      refine WL_nil ?_
      refine WC.forget (.cons _ (List.Sublist.refl _)) ?_
      refine WC_region ?_
      refine WL_det rfl (det_addi (q := 1) rfl rfl (by omega)) ?_
      dsimp only [put, List.take, List.drop, List.set, ev, nth, List.nil_append, List.cons_append, md, Nat.reducePow, Nat.reduceAdd, Nat.reduceMul]
      refine WL_det rfl (det_move) ?_
      dsimp only [put, List.take, List.drop, List.set, ev, nth, List.nil_append, List.cons_append, md, Nat.reducePow, Nat.reduceAdd, Nat.reduceMul]
      refine WL_nil ?_
      refine ⟨(k + 1, M1), ?_, ?_, ?_, ?_⟩
      · rfl
      · rfl
      · exact ⟨by dsimp only; omega, by rw [once_take (by omega)]; exact hM1⟩
      · dsimp only; omega
    · have hc0 := of_decide_eq_false hc0
      obtain rfl : k = L.length := by omega
      rw [List.take_length] at hM
      refine WC_exit ?_
      refine inB_same ?_
      refine WC_seq ?_
      refine WC_region ?_
      refine WL_det rfl (det_move) ?_
      dsimp only [put, List.take, List.drop, List.set, ev, nth, List.nil_append, List.cons_append, md, Nat.reducePow, Nat.reduceAdd, Nat.reduceMul]
      refine WL_det rfl (det_assign) ?_
      dsimp only [put, List.take, List.drop, List.set, ev, nth, List.nil_append, List.cons_append, md, Nat.reducePow, Nat.reduceAdd, Nat.reduceMul]
      refine WL_nil ?_
      refine WC_ret ?_
      refine fin_tmp Try.results24 rfl (_) (List.Sublist.refl _) ?_
      exact ⟨_, ⟨_, rfl, hM⟩, rfl⟩

end Go.Proofs.Ytocmlaloafmfkaa

set_option linter.unusedVariables false
namespace Go.Proofs.Ytocmlaloafmfkaa
open Go.MW
section
variable {α : Type} [DecidableEq α]
/-- What is come to, each with the place of what it was come to from. -/
def insA (i : Int) (A : List (α × Int)) (y : α) : List (α × Int) := if y ∈ A.map Prod.fst then A else A ++ [(y, i)]
def seedA (from_ : List α) : List (α × Int) := from_.foldl (insA (-1)) []
def expA (es : List (α × α)) (i : Nat) (A : List (α × Int)) : List (α × Int) := match A[i]? with | some x => (succ es x.1).foldl (insA (i : Int)) A | none => A
def stA (es : List (α × α)) (from_ : List α) : Nat → List (α × Int)
  | 0 => seedA from_
  | i + 1 => expA es i (stA es from_ i)
def bndA (es : List (α × α)) (from_ : List α) : Nat := from_.length + (nodesE es).length
def srch (es : List (α × α)) (from_ : List α) : List (α × Int) := stA es from_ (bndA es from_)
theorem insA_old {i : Int} {A : List (α × Int)} {y : α} (h : y ∈ A.map Prod.fst) : insA i A y = A := if_pos h
theorem insA_new {i : Int} {A : List (α × Int)} {y : α} (h : y ∉ A.map Prod.fst) : insA i A y = A ++ [(y, i)] := if_neg h
theorem insA_pre (i : Int) (A : List (α × Int)) (y : α) : A <+: insA i A y := by
  unfold insA; split
  · exact List.prefix_refl _
  · exact List.prefix_append _ _
theorem fold_pre (i : Int) : ∀ (l : List α) (A : List (α × Int)), A <+: l.foldl (insA i) A
  | [], A => List.prefix_refl _
  | y :: l, A => (insA_pre i A y).trans (fold_pre i l (insA i A y))
theorem insA_nodup {i : Int} {A : List (α × Int)} (h : (A.map Prod.fst).Nodup) (y : α) : ((insA i A y).map Prod.fst).Nodup := by
  unfold insA; split
  · exact h
  · rename_i hy
    rw [List.map_append, List.nodup_append]
    exact ⟨h, by simp, fun a ha b hb => by simp at hb; subst hb; exact fun e => hy (e ▸ ha)⟩
theorem fold_nodup (i : Int) : ∀ (l : List α) (A : List (α × Int)), (A.map Prod.fst).Nodup → ((l.foldl (insA i) A).map Prod.fst).Nodup
  | [], A, h => h
  | y :: l, A, h => fold_nodup i l _ (insA_nodup h y)
theorem mem_insA {i : Int} {A : List (α × Int)} {y x : α} : x ∈ (insA i A y).map Prod.fst ↔ x ∈ A.map Prod.fst ∨ x = y := by
  unfold insA; split
  · rename_i h
    constructor
    · exact .inl
    · rintro (h2 | rfl)
      · exact h2
      · exact h
  · rw [List.map_append, List.mem_append]; simp
theorem mem_fold {i : Int} {x : α} : ∀ (l : List α) (A : List (α × Int)), x ∈ (l.foldl (insA i) A).map Prod.fst ↔ x ∈ A.map Prod.fst ∨ x ∈ l
  | [], A => by simp
  | y :: l, A => by
    rw [List.foldl_cons, mem_fold l, mem_insA, List.mem_cons]
    constructor
    · rintro ((h | h) | h)
      · exact .inl h
      · exact .inr (.inl h)
      · exact .inr (.inr h)
    · rintro (h | h | h)
      · exact .inl (.inl h)
      · exact .inl (.inr h)
      · exact .inr h
theorem expA_pre (es : List (α × α)) (i : Nat) (A : List (α × Int)) : A <+: expA es i A := by
  unfold expA; split
  · exact fold_pre _ _ _
  · exact List.prefix_refl _
theorem stA_nodup (es : List (α × α)) (from_ : List α) : ∀ i, ((stA es from_ i).map Prod.fst).Nodup
  | 0 => fold_nodup _ _ _ (by simp)
  | i + 1 => by
    show ((expA es i (stA es from_ i)).map Prod.fst).Nodup
    unfold expA; split
    · exact fold_nodup _ _ _ (stA_nodup es from_ i)
    · exact stA_nodup es from_ i
theorem stA_sub (es : List (α × α)) (from_ : List α) : ∀ i, ∀ x ∈ (stA es from_ i).map Prod.fst, x ∈ from_ ++ nodesE es
  | 0 => fun x hx => by
    rw [show stA es from_ 0 = from_.foldl (insA (-1)) [] from rfl, mem_fold] at hx
    rw [List.mem_append]; left; simpa using hx
  | i + 1 => fun x hx => by
    rw [show stA es from_ (i + 1) = expA es i (stA es from_ i) from rfl] at hx
    unfold expA at hx
    split at hx
    · rw [mem_fold] at hx
      rcases hx with hx | hx
      · exact stA_sub es from_ i x hx
      · rw [List.mem_append]; exact .inr (succ_node hx)
    · exact stA_sub es from_ i x hx
theorem stA_len (es : List (α × α)) (from_ : List α) (i : Nat) : (stA es from_ i).length ≤ bndA es from_ := by
  have := List.Nodup.length_le_of_subset (stA_nodup es from_ i) (fun x hx => stA_sub es from_ i x hx)
  rw [List.length_map, List.length_append] at this
  exact this
theorem stA_stop {es : List (α × α)} {from_ : List α} {i : Nat} (h : (stA es from_ i).length ≤ i) : ∀ d, stA es from_ (i + d) = stA es from_ i
  | 0 => rfl
  | d + 1 => by
    have ih := stA_stop h d
    show expA es (i + d) (stA es from_ (i + d)) = _
    rw [ih]
    unfold expA
    rw [List.getElem?_eq_none (by omega)]
theorem srch_eq {es : List (α × α)} {from_ : List α} {i : Nat} (hi : i ≤ bndA es from_) (h : (stA es from_ i).length ≤ i) : srch es from_ = stA es from_ i := by
  have := stA_stop h (bndA es from_ - i)
  rwa [show i + (bndA es from_ - i) = bndA es from_ by omega] at this
end

end Go.Proofs.Ytocmlaloafmfkaa

set_option linter.unusedVariables false
namespace Go.Proofs.Ytocmlaloafmfkaa
open Go.MW
section
variable {α : Type} [DecidableEq α]
def sdA (F : List α) (k : Nat) : List (α × Int) := (F.take k).foldl (insA (-1)) []
theorem sdA_step {F : List α} {k : Nat} (h : k < F.length) (d : α) : sdA F (k + 1) = insA (-1) (sdA F k) (F.getD k d) := by
  unfold sdA
  rw [List.take_succ_eq_append_getElem h, List.foldl_append, List.getD_eq_getElem?_getD, List.getElem?_eq_getElem h]
  rfl
theorem insA_len (i : Int) (A : List (α × Int)) (y : α) : (insA i A y).length ≤ A.length + 1 := by unfold insA; split <;> simp
theorem sdA_len (F : List α) (k : Nat) : (sdA F k).length ≤ k := by
  have : ∀ (l : List α) (A : List (α × Int)), (l.foldl (insA (-1)) A).length ≤ A.length + l.length := by
    intro l
    induction l with
    | nil => intro A; simp
    | cons y l ih =>
      intro A
      have h1 := ih (insA (-1) A y)
      have h2 := insA_len (-1) A y
      rw [List.foldl_cons, List.length_cons]
      omega
  have h := this (F.take k) []
  have h3 := List.length_take_le k F
  unfold sdA
  simp only [List.length_nil] at h
  omega
theorem sdA_all (F : List α) (es : List (α × α)) : sdA F F.length = stA es F 0 := by unfold sdA; rw [List.take_length]; rfl
/-- The search's step j, q successors done. -/
def exA (es : List (α × α)) (F : List α) (j q : Nat) (a : α) : List (α × Int) := ((succ es a).take q).foldl (insA (j : Int)) (stA es F j)
theorem exA_step {es : List (α × α)} {F : List α} {j q : Nat} {a : α} (h : q < (succ es a).length) (d : α) : exA es F j (q + 1) a = insA (j : Int) (exA es F j q a) ((succ es a).getD q d) := by
  unfold exA
  rw [List.take_succ_eq_append_getElem h, List.foldl_append, List.getD_eq_getElem?_getD, List.getElem?_eq_getElem h]
  rfl
theorem exA_all {es : List (α × α)} {F : List α} {j : Nat} {a : α} {i : Int} (h : (stA es F j)[j]? = some (a, i)) : exA es F j (succ es a).length a = stA es F (j + 1) := by
  unfold exA
  rw [List.take_length]
  show _ = expA es j (stA es F j)
  unfold expA
  rw [h]
theorem stA_none {es : List (α × α)} {F : List α} {j : Nat} {a : α} {i : Int} (h : (stA es F j)[j]? = some (a, i)) (ha : a ∉ nodesE es) : stA es F (j + 1) = stA es F j := by
  rw [← exA_all h, succ_none ha]
  rfl
theorem exA_len {es : List (α × α)} {F : List α} {j q : Nat} {a : α} {i : Int} (h : (stA es F j)[j]? = some (a, i)) : (exA es F j q a).length ≤ bndA es F := by
  have h1 : exA es F j q a <+: stA es F (j + 1) := by
    rw [← exA_all h]
    unfold exA
    rw [List.take_length, ← List.take_append_drop q (succ es a), List.foldl_append]
    simp only [List.take_append_drop]
    exact fold_pre _ _ _
  exact Nat.le_trans h1.length_le (stA_len es F (j + 1))
theorem insA_fst {i : Int} {A : List (α × Int)} {y : α} (h : y ∉ A.map Prod.fst) : (insA i A y).map Prod.fst = A.map Prod.fst ++ [y] := by rw [insA_new h]; simp
theorem insA_snd {i : Int} {A : List (α × Int)} {y : α} (h : y ∉ A.map Prod.fst) : (insA i A y).map Prod.snd = A.map Prod.snd ++ [i] := by rw [insA_new h]; simp
end

end Go.Proofs.Ytocmlaloafmfkaa
