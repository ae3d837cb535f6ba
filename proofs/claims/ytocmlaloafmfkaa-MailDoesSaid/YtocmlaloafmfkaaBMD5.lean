/- What the claim of this folder needs of its texts, put together by a program of this claim. Conditions: none. -/
import Derived.Test.YtocmlaloafmfkaaBMD4
set_option linter.unusedVariables false
namespace Go.Proofs.Ytocmlaloafmfkaa
open Go.MW
structure Bx where
  cb : Nat → Nat
  sb : Nat → Nat
  wb : Nat → Nat
  R : Nat → Nat
def eS (K : Bx) (a : Nat) : Option Nat × Obj := (some (K.sb a), .cells #[.chan (some (K.cb a)), vn .i64 (K.R a)] 88 (0, 0))
def eW (K : Bx) (v : Value) (a : Nat) : Option Nat × Obj := (some (K.wb a), .cells #[v, vn .i64 (K.R a)] 45 (0, 0))
def g4 (K : Bx) (C Q : Nat → Option Nat × Obj) (lv : Nat → Value) (a : Nat) : Mem := [C a, eS K a, eW K (lv a) a, Q a]
/-- n boxes, each beside its reference: what the boxes hold, what the references hold, the references' rows. -/
def BMl (n : Nat) (K : Bx) (X Y : Nat → List Int) (lv : Nat → Value) (M : Mem) : Prop :=
  ∃ C Q, (∀ a, a < n → ChE (K.cb a) (K.R a) (iv (X a)) (C a)) ∧ (∀ a, a < n → RowO 3 (iv (Y a)) (lv a) (Q a)) ∧ M = (List.range n).flatMap (g4 K C Q lv)
def up {α : Type} (X : Nat → α) (a : Nat) (l : α) : Nat → α := fun i => if i = a then l else X i
theorem up_self {α : Type} (X : Nat → α) (a : Nat) (l : α) : up X a l a = l := by simp [up]
theorem up_ne {α : Type} (X : Nat → α) {a b : Nat} (l : α) (h : b ≠ a) : up X a l b = X b := by simp [up, h]
theorem up_eta {α : Type} (X : Nat → α) (a : Nat) : up X a (X a) = X := by
  funext i
  by_cases h : i = a
  · subst h; rw [up_self]
  · rw [up_ne _ _ h]
theorem flatMap_congr' {α β : Type} {f g : α → List β} : ∀ (l : List α), (∀ x ∈ l, f x = g x) → l.flatMap f = l.flatMap g
  | [], _ => rfl
  | x :: l, h => by rw [List.flatMap_cons, List.flatMap_cons, h x (by simp), flatMap_congr' l fun y hy => h y (by simp [hy])]
theorem BMl.split {n : Nat} {K : Bx} {X Y : Nat → List Int} {lv : Nat → Value} {M : Mem} (h : BMl n K X Y lv M) {a : Nat} (ha : a < n) :
    ∃ C q rest, ChE (K.cb a) (K.R a) (iv (X a)) C ∧ RowO 3 (iv (Y a)) (lv a) q ∧ (C :: eS K a :: eW K (lv a) a :: q :: rest).Perm M ∧
      ∀ (X' Y' : Nat → List Int) (lv' : Nat → Value) (C' q' : Option Nat × Obj), (∀ j, j ≠ a → X' j = X j ∧ Y' j = Y j ∧ lv' j = lv j) → ChE (K.cb a) (K.R a) (iv (X' a)) C' → RowO 3 (iv (Y' a)) (lv' a) q' →
        ∃ M', BMl n K X' Y' lv' M' ∧ (C' :: eS K a :: eW K (lv' a) a :: q' :: rest).Perm M' := by
  obtain ⟨C, Q, hC, hQ, rfl⟩ := h
  have hp := range_pick [a] (by simp) n (by simpa using ha)
  refine ⟨C a, Q a, ((List.range n).filter fun j => ![a].contains j).flatMap (g4 K C Q lv), hC a ha, hQ a ha, ?_, ?_⟩
  · have := hp.flatMap_right (g4 K C Q lv)
    simpa [g4] using this
  · intro X' Y' lv' C' q' ho hC' hq'
    refine ⟨(List.range n).flatMap (g4 K (up C a C') (up Q a q') lv'), ⟨up C a C', up Q a q', fun j hj => ?_, fun j hj => ?_, rfl⟩, ?_⟩
    · by_cases hja : j = a
      · subst hja; rw [up_self]; exact hC'
      · rw [up_ne _ _ hja, (ho j hja).1]; exact hC j hj
    · by_cases hja : j = a
      · subst hja; rw [up_self]; exact hq'
      · rw [up_ne _ _ hja, (ho j hja).2.1, (ho j hja).2.2]; exact hQ j hj
    · have := hp.flatMap_right (g4 K (up C a C') (up Q a q') lv')
      have he : ((List.range n).filter fun j => ![a].contains j).flatMap (g4 K (up C a C') (up Q a q') lv') = ((List.range n).filter fun j => ![a].contains j).flatMap (g4 K C Q lv) := by
        refine flatMap_congr' _ fun j hj => ?_
        have hja : j ≠ a := by simpa using (List.mem_filter.1 hj).2
        simp only [g4, up_ne _ _ hja, (ho j hja).2.2]
      rw [List.flatMap_append, he] at this
      simpa [g4, up_self] using this
theorem Has.dropN {w0 w : World} {m : Mem} (hw : Has w0 m w) (k : Nat) : Has w0 (m.drop k) w := hw.sub (List.drop_sublist _ _)
theorem BMl.facts {n : Nat} {K : Bx} {X Y : Nat → List Int} {lv : Nat → Value} {M mm : Mem} {w0 w : World} (h : BMl n K X Y lv M) {a : Nat} (ha : a < n) (hw : Has w0 (M ++ mm) w) :
    (∃ s r, w.heap[K.cb a]? = some (.chan (K.R a) (iv (X a)).toArray false s r false)) ∧ w.heap[K.sb a]? = some (.cells #[.chan (some (K.cb a)), vn .i64 (K.R a)] 88 (0, 0)) ∧ w.heap[K.wb a]? = some (.cells #[lv a, vn .i64 (K.R a)] 45 (0, 0)) ∧ RdZ w (Y a) (lv a) := by
  obtain ⟨C, q, rest, ⟨s, r, rfl⟩, hq, hp, _⟩ := h.split ha
  have hw' := hw.perm (hp.append_right mm)
  exact ⟨⟨s, r, hw'.at 0 rfl⟩, hw'.at 1 rfl, hw'.at 2 rfl, RdL.z (hq.rd hw' 3 rfl)⟩
/-- An operation of a channel's, in the midst of the boxes. -/
theorem BMl.callC {n : Nat} {K : Bx} {X Y : Nat → List Int} {lv : Nat → Value} {M : Mem} {w0 : World} {f : FuncId} {av : Array Value} {V : Value} (h : BMl n K X Y lv M) {a : Nat} (ha : a < n) {l : List Value} (l' : List Int) (hl : l = iv l')
    (hc : ∀ s r w mm, Has w0 ((some (K.cb a), .chan (K.R a) (iv (X a)).toArray false s r false) :: (some (K.sb a), .cells #[.chan (some (K.cb a)), vn .i64 (K.R a)] 88 (0, 0)) :: mm) w → Calls Try.prog f av w (Post w0 fun v m => ∃ es, (v = V ∧ ∃ e, ChE (K.cb a) (K.R a) l e ∧ es = [e, (some (K.sb a), .cells #[.chan (some (K.cb a)), vn .i64 (K.R a)] 88 (0, 0))]) ∧ m = es ++ mm)) :
    ∀ w mm, Has w0 (M ++ mm) w → Calls Try.prog f av w (Post w0 fun v m => ∃ m1, (v = V ∧ BMl n K (up X a l') Y lv m1) ∧ m = m1 ++ mm) := by
  intro w mm hw
  subst hl
  obtain ⟨C, q, rest, ⟨s, r, rfl⟩, hq, hp, hb⟩ := h.split ha
  refine (hc s r w (eW K (lv a) a :: q :: (rest ++ mm)) (hw.perm (hp.append_right mm))).mono ?_
  rintro e1 w' ⟨v, mi, rfl, ⟨es, ⟨rfl, e, he, rfl⟩, rfl⟩, hh⟩
  obtain ⟨M', hM', hp'⟩ := hb (up X a l') Y lv e q (fun j hj => ⟨up_ne _ _ hj, rfl, rfl⟩) (by rw [up_self]; exact he) hq
  exact ⟨_, _, rfl, ⟨M', ⟨rfl, hM'⟩, rfl⟩, hh.perm (hp'.append_right mm).symm⟩
/-- .. of a reference's. -/
theorem BMl.callR {n : Nat} {K : Bx} {X Y : Nat → List Int} {lv : Nat → Value} {M : Mem} {w0 : World} {f : FuncId} {av : Array Value} {V : Value} (h : BMl n K X Y lv M) {a : Nat} (ha : a < n) {l : List Value} (l' : List Int) (hl : l = iv l')
    (hc : ∀ q, RowO 3 (iv (Y a)) (lv a) q → ∀ w mm, Has w0 ((some (K.wb a), .cells #[lv a, vn .i64 (K.R a)] 45 (0, 0)) :: q :: mm) w → Calls Try.prog f av w (Post w0 fun v m => ∃ es, (v = V ∧ ∃ lv' q', RowO 3 l lv' q' ∧ es = [(some (K.wb a), .cells #[lv', vn .i64 (K.R a)] 45 (0, 0)), q']) ∧ m = es ++ mm)) :
    ∀ w mm, Has w0 (M ++ mm) w → Calls Try.prog f av w (Post w0 fun v m => ∃ m1, (v = V ∧ ∃ lv', BMl n K X (up Y a l') lv' m1) ∧ m = m1 ++ mm) := by
  intro w mm hw
  subst hl
  obtain ⟨C, q, rest, hC, hq, hp, hb⟩ := h.split ha
  have e2 : ∀ (p : Option Nat × Obj) (q : Option Nat × Obj), (p :: q :: (C :: eS K a :: rest) ++ mm).Perm ((C :: eS K a :: p :: q :: rest) ++ mm) := fun p q => List.Perm.append_right mm ((List.perm_append_comm (l₁ := [p, q]) (l₂ := [C, eS K a])).append_right rest)
  refine (hc q hq w (C :: eS K a :: (rest ++ mm)) (hw.perm ((e2 _ _).trans (hp.append_right mm)))).mono ?_
  rintro e1 w' ⟨v, mi, rfl, ⟨es, ⟨rfl, lv', q', he, rfl⟩, rfl⟩, hh⟩
  obtain ⟨M', hM', hp'⟩ := hb X (up Y a l') (up lv a lv') C q' (fun j hj => ⟨rfl, up_ne _ _ hj, up_ne _ _ hj⟩) hC (by rw [up_self, up_self]; exact he)
  rw [up_self] at hp'
  exact ⟨_, _, rfl, ⟨M', ⟨rfl, _, hM'⟩, rfl⟩, hh.perm ((e2 _ _).trans (hp'.append_right mm)).symm⟩
abbrev pS (K : Bx) (a : Nat) : Value := .pointer (some ⟨K.sb a, 0, none⟩)
abbrev pW (K : Bx) (a : Nat) : Value := .pointer (some ⟨K.wb a, 0, none⟩)
section
variable {n : Nat} {K : Bx} {X Y : Nat → List Int} {lv : Nat → Value} {M : Mem} {w0 : World} {a : Nat}
theorem takeB (h : BMl n K X Y lv M) (ha : a < n) : ∀ w mm, Has w0 (M ++ mm) w → Calls Try.prog 45 #[pS K a] w (Post w0 fun v m => ∃ m1, (v = .tuple #[.int .i64 ((X a).headD 0), .bool !(X a).isEmpty] ∧ BMl n K (up X a (X a).tail) Y lv m1) ∧ m = m1 ++ mm) := by
  cases hx : X a with
  | nil =>
    refine h.callC ha (l := []) [] rfl fun s r w mm hw => ?_
    rw [hx] at hw
    exact takeI_none (K.sb a) (K.cb a) (K.R a) s r hw
  | cons x l =>
    refine h.callC ha (l := iv l) l rfl fun s r w mm hw => ?_
    rw [hx] at hw
    exact takeI_some (K.sb a) (K.cb a) (K.R a) s r (iv l) (.int .i64 x) hw
theorem putB (h : BMl n K X Y lv M) (ha : a < n) (x : Int) : ∀ w mm, Has w0 (M ++ mm) w → Calls Try.prog 40 #[pS K a, .int .i64 x] w (Post w0 fun v m => ∃ m1, (v = .bool (decide ((X a).length < K.R a)) ∧ BMl n K (up X a (if (X a).length < K.R a then X a ++ [x] else X a)) Y lv m1) ∧ m = m1 ++ mm) := by
  by_cases hr : (X a).length < K.R a
  · rw [if_pos hr, decide_eq_true hr]
    exact h.callC ha _ (iv_snoc _ _) fun s r w mm hw => putI_room (K.sb a) (K.cb a) (K.R a) s r (iv (X a)) (.int .i64 x) (by rw [iv_len]; exact hr) hw
  · rw [if_neg hr, decide_eq_false hr]
    exact h.callC ha _ rfl fun s r w mm hw => putI_full (K.sb a) (K.cb a) (K.R a) s r (iv (X a)) (.int .i64 x) (by rw [iv_len]; omega) hw
theorem rtakeB (h : BMl n K X Y lv M) (ha : a < n) : ∀ w mm, Has w0 (M ++ mm) w → Calls Try.prog 46 #[pW K a] w (Post w0 fun v m => ∃ m1, (v = .tuple #[.int .i64 ((Y a).headD 0), .bool !(Y a).isEmpty] ∧ ∃ lv', BMl n K X (up Y a (Y a).tail) lv' m1) ∧ m = m1 ++ mm) := by
  cases hx : Y a with
  | nil =>
    refine h.callR ha (l := []) [] rfl fun q hq w mm hw => ?_
    rw [hx] at hq
    exact rtake_none (K.wb a) (K.R a) (lv a) q hq hw
  | cons x l =>
    refine h.callR ha (l := iv l) l rfl fun q hq w mm hw => ?_
    rw [hx] at hq
    exact rtake_some (K.wb a) (K.R a) (iv l) (lv a) q x hq hw
theorem rputB (h : BMl n K X Y lv M) (ha : a < n) (hR : K.R a ≤ 1000000) (x : Int) : ∀ w mm, Has w0 (M ++ mm) w → Calls Try.prog 44 #[pW K a, .int .i64 x] w (Post w0 fun v m => ∃ m1, (v = .bool (decide ((Y a).length < K.R a)) ∧ ∃ lv', BMl n K X (up Y a (if (Y a).length < K.R a then Y a ++ [x] else Y a)) lv' m1) ∧ m = m1 ++ mm) := by
  by_cases hr : (Y a).length < K.R a
  · rw [if_pos hr, decide_eq_true hr]
    exact h.callR ha _ (iv_snoc _ _) fun q hq w mm hw => rput_room (K.wb a) (K.R a) (iv (Y a)) (lv a) q hq x (by rw [iv_len]; exact hr) hR hw
  · rw [if_neg hr, decide_eq_false hr]
    exact h.callR ha _ rfl fun q hq w mm hw => rput_full (K.wb a) (K.R a) (iv (Y a)) (lv a) q hq x (by rw [iv_len]; omega) hw
theorem lenB {mm : Mem} {w : World} (h : BMl n K X Y lv M) (ha : a < n) (hw : Has w0 (M ++ mm) w) : Calls Try.prog 19 #[pS K a] w (PostV w (vn .i64 (X a).length)) := by
  obtain ⟨⟨s, r, h1⟩, h2, _, _⟩ := h.facts ha hw
  have := lenI_spec (K.sb a) (K.cb a) (K.R a) s r (iv (X a)) w h2 h1
  rwa [iv_len] at this
theorem roomB {mm : Mem} {w : World} (h : BMl n K X Y lv M) (ha : a < n) (hl : (X a).length ≤ K.R a) (hR : K.R a ≤ 1000000) (hw : Has w0 (M ++ mm) w) : Calls Try.prog 18 #[pS K a] w (PostV w (vn .i64 (K.R a - (X a).length : Nat))) := by
  obtain ⟨⟨s, r, h1⟩, h2, _, _⟩ := h.facts ha hw
  have := roomI_spec (K.sb a) (K.cb a) (K.R a) s r (iv (X a)) (by rw [iv_len]; exact hl) hR w h2 h1
  rwa [iv_len] at this
end

end Go.Proofs.Ytocmlaloafmfkaa

set_option linter.unusedVariables false
namespace Go.Proofs.Ytocmlaloafmfkaa
open Go.MW
theorem BMl.ne {n : Nat} {K : Bx} {X Y : Nat → List Int} {lv : Nat → Value} {M mm : Mem} {w0 w : World} (h : BMl n K X Y lv M) {a b : Nat} (ha : a < n) (hb : b < n) (hab : a ≠ b) (hw : Has w0 (M ++ mm) w) : K.sb a ≠ K.sb b := by
  obtain ⟨C, Q, hC, hQ, rfl⟩ := h
  have hp := (range_pick [a, b] (by simpa using hab) n (by simp; omega)).flatMap_right (g4 K C Q lv)
  have hw' := hw.perm (hp.append_right mm)
  have hn := hw'.nodup
  intro e
  simp only [List.cons_append, List.flatMap_cons, g4, eS, List.nil_append, List.filterMap_cons, e] at hn
  obtain ⟨s, r, e1⟩ := hC a ha
  obtain ⟨s2, r2, e2⟩ := hC b hb
  rw [e1, e2] at hn
  simp only at hn
  rw [List.nodup_cons] at hn
  have h2 := (List.nodup_cons.1 hn.2).1
  apply h2
  simp only [eW, List.mem_cons]
  right
  cases (Q a).1 <;> simp
def mv (X : Nat → List Int) (a b k : Nat) : Nat → List Int := up (up X a ((X a).drop k)) b (X b ++ (X a).take k)
theorem mv_zero (X : Nat → List Int) {a b : Nat} (hab : a ≠ b) : mv X a b 0 = X := by
  unfold mv
  rw [List.drop_zero, List.take_zero, List.append_nil, up_eta, up_eta]
theorem mv_a (X : Nat → List Int) {a b : Nat} (hab : a ≠ b) (k : Nat) : mv X a b k a = (X a).drop k := by
  unfold mv; rw [up_ne _ _ hab, up_self]
theorem mv_b (X : Nat → List Int) (a b k : Nat) : mv X a b k b = X b ++ (X a).take k := by
  unfold mv; rw [up_self]
theorem drop_cons (l : List Int) {k : Nat} (h : k < l.length) : l.drop k = l.getD k 0 :: l.drop (k + 1) := by
  rw [List.drop_eq_getElem_cons h, List.getD_eq_getElem?_getD, List.getElem?_eq_getElem h]
  rfl
theorem mv_step (X : Nat → List Int) {a b : Nat} (hab : a ≠ b) {k : Nat} (hk : k < (X a).length) : up (up (mv X a b k) a (mv X a b k a).tail) b (mv X a b k b ++ [(mv X a b k a).headD 0]) = mv X a b (k + 1) := by
  rw [mv_a X hab, mv_b]
  funext i
  unfold mv
  by_cases hb : i = b
  · subst hb
    rw [up_self, up_self, drop_cons _ hk, List.headD_cons, List.append_assoc]
    congr 1
    rw [List.take_succ_eq_append_getElem hk, List.getD_eq_getElem?_getD, List.getElem?_eq_getElem hk]
    rfl
  · rw [up_ne _ _ hb, up_ne _ _ hb]
    by_cases ha : i = a
    · subst ha
      rw [up_self, up_self, List.tail_drop]
    · rw [up_ne _ _ ha, up_ne _ _ ha, up_ne _ _ hb, up_ne _ _ ha]
set_option maxRecDepth 100000 in
set_option maxHeartbeats 400000 in
theorem drainI_spec (b c room s r : Nat) (l : List Int) (hl : l.length ≤ 1000000) {w0 : World} {m0 : Mem} {w : World} (hw0 : Has w0 ((some c, .chan room (iv l).toArray false s r false) :: (some b, .cells #[.chan (some c), vn .i64 room] 88 (0, 0)) :: m0) w) :
    Calls Try.prog 22 [.pointer (some ⟨b, 0, none⟩)].toArray w (Post w0 fun v m => ∃ es, (∃ e1 e2, ChE c room [] e1 ∧ RowV 3 l.length (fun i => .int .i64 (l.getD i 0)) v e2 ∧ es = [e1, (some b, .cells #[.chan (some c), vn .i64 room] 88 (0, 0)), e2]) ∧ m = es ++ m0) := by
  refine calls_of_WCm Try.func22 rfl ?_ hw0
  simp only [Try.ntmps22, List.length_cons, List.length_nil, Nat.reduceAdd, Nat.reduceSub, List.replicate, List.cons_append, List.nil_append]
  refine WC_seq ?_
  refine WC_region ?_
  refine WL_det rfl (det_assign) ?_
  dsimp only [put, List.take, List.drop, List.set, ev, nth, List.nil_append, List.cons_append, md, Nat.reducePow, Nat.reduceAdd, Nat.reduceMul]
  refine WL_nil ?_
  refine WC_seq ?_
  refine WC_region ?_
  refine WL_det rfl (det_assign) ?_
  dsimp only [put, List.take, List.drop, List.set, ev, nth, List.nil_append, List.cons_append, md, Nat.reducePow, Nat.reduceAdd, Nat.reduceMul]
  refine WL_nil ?_
  refine WC_block ?_
  refine WC.addNoneAt 2 (.cells #[] 3 (0, 0)) ?_
  dsimp only [List.take, List.drop, List.cons_append, List.nil_append]
  refine WC_loopS (ι := Nat × Nat × Nat × Value × (Option Nat × Obj)) [7, 8, 6, 9, 10, 4, 5, 11, 12, 13, 2, 14, 15, 16, 17] (fun x => [(3, x.2.2.2.1)]) (fun x => [(0, (some c, .chan room (iv (l.drop x.1)).toArray false x.2.1 x.2.2.1 false)), (2, x.2.2.2.2)]) (fun x => x.1 ≤ l.length ∧ RowV 3 x.1 (fun i => .int .i64 (l.getD i 0)) x.2.2.2.1 x.2.2.2.2) (fun x => l.length + 1 - x.1) (0, s, r, .slice none 0 0, (none, .cells #[] 3 (0, 0))) ?_ ?_ ?_ ?_
  · rfl
  · rfl
  · exact ⟨Nat.zero_le _, RowV.nil _ _ _⟩
  · rintro ⟨k, s, r, v, e⟩ g' ⟨hk, hr⟩
    dsimp only [setAll, setG, setM, List.set]
    dsimp only at hk hr
    refine WC_block ?_
    refine WC_seq ?_
    by_cases hlt : k < l.length
    · rw [iv_drop l hlt]
      refine WC_region ?_
      refine WL_det rfl (det_move) ?_
      dsimp only [put, List.take, List.drop, List.set, ev, nth, List.nil_append, List.cons_append, md, Nat.reducePow, Nat.reduceAdd, Nat.reduceMul]
      refine WL_chg rfl (Chg_callM [0, 1] _ rfl Try.call45 (by decide) (by simp) rfl (fun v es' h => by obtain ⟨_, e, _, rfl⟩ := h; rfl) (fun w m0 hw => takeI_some b c room s r (iv (l.drop (k + 1))) (.int .i64 (l.getD k 0)) hw)) ?_
      rintro _ _ ⟨_, ⟨rfl, _, ⟨s1, r1, rfl⟩, rfl⟩, rfl⟩
      dsimp only [put, setM, List.zip, List.zipWith, List.take, List.drop, List.append_nil, List.set, ev, nth, List.nil_append, List.cons_append, md, Nat.reducePow, Nat.reduceAdd, Nat.reduceMul]
      refine WL_det rfl (det_move) ?_
      dsimp only [put, List.take, List.drop, List.set, ev, nth, List.nil_append, List.cons_append, md, Nat.reducePow, Nat.reduceAdd, Nat.reduceMul]
      refine WL_det rfl (det_extract rfl rfl) ?_
      dsimp only [put, List.take, List.drop, List.set, ev, nth, List.nil_append, List.cons_append, md, Nat.reducePow, Nat.reduceAdd, Nat.reduceMul]
      refine WL_det rfl (det_extract rfl rfl) ?_
      dsimp only [put, List.take, List.drop, List.set, ev, nth, List.nil_append, List.cons_append, md, Nat.reducePow, Nat.reduceAdd, Nat.reduceMul]
      refine WL_det rfl (det_assign) ?_
      dsimp only [put, List.take, List.drop, List.set, ev, nth, List.nil_append, List.cons_append, md, Nat.reducePow, Nat.reduceAdd, Nat.reduceMul]
      refine WL_det rfl (det_assign) ?_
      dsimp only [put, List.take, List.drop, List.set, ev, nth, List.nil_append, List.cons_append, md, Nat.reducePow, Nat.reduceAdd, Nat.reduceMul]
      refine WL_nil ?_
      refine WC_seq ?_
      refine WC_seq ?_
      refine WC_region ?_
      refine WL_det rfl (det_move) ?_
      dsimp only [put, List.take, List.drop, List.set, ev, nth, List.nil_append, List.cons_append, md, Nat.reducePow, Nat.reduceAdd, Nat.reduceMul]
      refine WL_det rfl (det_not rfl) ?_
      dsimp only [put, List.take, List.drop, List.set, ev, nth, List.nil_append, List.cons_append, md, Nat.reducePow, Nat.reduceAdd, Nat.reduceMul]
      refine WL_nil ?_
      refine WC_cond_false rfl ?_
      refine WC_skip ?_
      refine WC_region ?_
      refine WL_det rfl (det_move) ?_
      dsimp only [put, List.take, List.drop, List.set, ev, nth, List.nil_append, List.cons_append, md, Nat.reducePow, Nat.reduceAdd, Nat.reduceMul]
      refine WL_det rfl (det_move) ?_
      dsimp only [put, List.take, List.drop, List.set, ev, nth, List.nil_append, List.cons_append, md, Nat.reducePow, Nat.reduceAdd, Nat.reduceMul]
      refine WL_relAt 3 rfl (rel_lit1 Try.underlying43 Try.zeroValue3 Try.sizeOf3 rfl rfl) ?_
      rintro _ _ ⟨bl, rfl, rfl⟩
      dsimp only [put, List.take, List.drop, List.set, ev, nth, List.nil_append, List.cons_append, md, Nat.reducePow, Nat.reduceAdd, Nat.reduceMul]
      refine WL_chg rfl (chg_append1 2 3 rfl (hr) rfl rfl rfl rfl Try.underlying43 ei3 rfl (by omega) (by decide)) ?_
      rintro vx _ ⟨ex, hrx, rfl⟩
      dsimp only [put, List.eraseIdx, List.set, ev, nth, List.nil_append, List.cons_append, md, Nat.reducePow, Nat.reduceAdd, Nat.reduceMul]
      refine WL_det rfl (det_assign) ?_
      dsimp only [put, List.take, List.drop, List.set, ev, nth, List.nil_append, List.cons_append, md, Nat.reducePow, Nat.reduceAdd, Nat.reduceMul]
      refine WL_nil ?_
      refine ⟨(k + 1, s1, r1, vx, ex), ?_, ?_, ?_, ?_⟩
      · rfl
      · rfl
      · exact ⟨by omega, hrx.congr fun i hi => by unfold catV; split; rfl; rw [show i = k by omega]; rfl⟩
      · dsimp only; omega
    · obtain rfl : k = l.length := by omega
      rw [List.drop_length]
      refine WC_region ?_
      refine WL_det rfl (det_move) ?_
      dsimp only [put, List.take, List.drop, List.set, ev, nth, List.nil_append, List.cons_append, md, Nat.reducePow, Nat.reduceAdd, Nat.reduceMul]
      refine WL_chg rfl (Chg_callM [0, 1] _ rfl Try.call45 (by decide) (by simp) rfl (fun v es' h => by obtain ⟨_, e, _, rfl⟩ := h; rfl) (fun w m0 hw => takeI_none b c room s r hw)) ?_
      rintro _ _ ⟨_, ⟨rfl, _, ⟨s1, r1, rfl⟩, rfl⟩, rfl⟩
      dsimp only [put, setM, List.zip, List.zipWith, List.take, List.drop, List.append_nil, List.set, ev, nth, List.nil_append, List.cons_append, md, Nat.reducePow, Nat.reduceAdd, Nat.reduceMul]
      refine WL_det rfl (det_move) ?_
      dsimp only [put, List.take, List.drop, List.set, ev, nth, List.nil_append, List.cons_append, md, Nat.reducePow, Nat.reduceAdd, Nat.reduceMul]
      refine WL_det rfl (det_extract rfl rfl) ?_
      dsimp only [put, List.take, List.drop, List.set, ev, nth, List.nil_append, List.cons_append, md, Nat.reducePow, Nat.reduceAdd, Nat.reduceMul]
      refine WL_det rfl (det_extract rfl rfl) ?_
      dsimp only [put, List.take, List.drop, List.set, ev, nth, List.nil_append, List.cons_append, md, Nat.reducePow, Nat.reduceAdd, Nat.reduceMul]
      refine WL_det rfl (det_assign) ?_
      dsimp only [put, List.take, List.drop, List.set, ev, nth, List.nil_append, List.cons_append, md, Nat.reducePow, Nat.reduceAdd, Nat.reduceMul]
      refine WL_det rfl (det_assign) ?_
      dsimp only [put, List.take, List.drop, List.set, ev, nth, List.nil_append, List.cons_append, md, Nat.reducePow, Nat.reduceAdd, Nat.reduceMul]
      refine WL_nil ?_
      refine WC_seq ?_
      refine WC_seq ?_
      refine WC_region ?_
      refine WL_det rfl (det_move) ?_
      dsimp only [put, List.take, List.drop, List.set, ev, nth, List.nil_append, List.cons_append, md, Nat.reducePow, Nat.reduceAdd, Nat.reduceMul]
      refine WL_det rfl (det_not rfl) ?_
      dsimp only [put, List.take, List.drop, List.set, ev, nth, List.nil_append, List.cons_append, md, Nat.reducePow, Nat.reduceAdd, Nat.reduceMul]
      refine WL_nil ?_
      refine WC_cond_true rfl ?_
      refine WC_seq ?_
      refine WC_region ?_
      refine WL_det rfl (det_move) ?_
      dsimp only [put, List.take, List.drop, List.set, ev, nth, List.nil_append, List.cons_append, md, Nat.reducePow, Nat.reduceAdd, Nat.reduceMul]
      refine WL_det rfl (det_assign) ?_
      dsimp only [put, List.take, List.drop, List.set, ev, nth, List.nil_append, List.cons_append, md, Nat.reducePow, Nat.reduceAdd, Nat.reduceMul]
      refine WL_nil ?_
      refine WC_ret ?_
      refine inB_ret ?_
      refine inB_ret ?_
      try simp only [List.append_nil]
      refine fin_tmp Try.results22 rfl (_) (List.Sublist.refl _) ?_
      exact ⟨[_, _, _], ⟨_, _, ⟨_, _, rfl⟩, hr, rfl⟩, rfl⟩

set_option maxRecDepth 100000 in
set_option maxHeartbeats 400000 in
theorem move_same (n : Nat) (K : Bx) (X Y : Nat → List Int) (lv : Nat → Value) (M : Mem) (hM : BMl n K X Y lv M) (a : Nat) (ha : a < n) {w0 : World} {m0 : Mem} {w : World} (hw0 : Has w0 ((M ++ m0)) w) :
    Calls Try.prog 47 [pS K a, pS K a].toArray w (Post w0 fun v m => ∃ m1, (v = vn .i64 0 ∧ BMl n K X Y lv m1) ∧ m = m1 ++ m0) := by
  refine calls_of_WCm Try.func47 rfl ?_ hw0
  simp only [Try.ntmps47, List.length_cons, List.length_nil, Nat.reduceAdd, Nat.reduceSub, List.replicate, List.cons_append, List.nil_append]
  refine WC_seq ?_
  refine WC_region ?_
  refine WL_det rfl (det_assign) ?_
  dsimp only [put, List.take, List.drop, List.set, ev, nth, List.nil_append, List.cons_append, md, Nat.reducePow, Nat.reduceAdd, Nat.reduceMul]
  refine WL_nil ?_
  refine WC_seq ?_
  refine WC_region ?_
  refine WL_det rfl (det_assign) ?_
  dsimp only [put, List.take, List.drop, List.set, ev, nth, List.nil_append, List.cons_append, md, Nat.reducePow, Nat.reduceAdd, Nat.reduceMul]
  refine WL_nil ?_
  refine WC_seq ?_
  refine WC_seq ?_
  refine WC_region ?_
  refine WL_det rfl (det_move) ?_
  dsimp only [put, List.take, List.drop, List.set, ev, nth, List.nil_append, List.cons_append, md, Nat.reducePow, Nat.reduceAdd, Nat.reduceMul]
  refine WL_det rfl (det_move) ?_
  dsimp only [put, List.take, List.drop, List.set, ev, nth, List.nil_append, List.cons_append, md, Nat.reducePow, Nat.reduceAdd, Nat.reduceMul]
  refine WL_det rfl (Det.bv true (det_eqlPP (K.sb a) (K.sb a) rfl rfl Try.underlying39 Try.sizeOf88 fun w hw => ⟨(hM.facts ha hw).2.1, (hM.facts ha hw).2.1⟩) (by simp)) ?_
  dsimp only [put, List.take, List.drop, List.set, ev, nth, List.nil_append, List.cons_append, md, Nat.reducePow, Nat.reduceAdd, Nat.reduceMul]
  refine WL_nil ?_
  refine WC_cond_true rfl ?_
  refine WC_seq ?_
  refine WC_region ?_
  refine WL_det rfl (det_move) ?_
  dsimp only [put, List.take, List.drop, List.set, ev, nth, List.nil_append, List.cons_append, md, Nat.reducePow, Nat.reduceAdd, Nat.reduceMul]
  refine WL_det rfl (det_assign) ?_
  dsimp only [put, List.take, List.drop, List.set, ev, nth, List.nil_append, List.cons_append, md, Nat.reducePow, Nat.reduceAdd, Nat.reduceMul]
  refine WL_nil ?_
  refine WC_ret ?_
  refine fin_tmp Try.results47 rfl (_) (List.Sublist.refl _) ?_
  exact ⟨_, ⟨rfl, hM⟩, rfl⟩

set_option maxRecDepth 100000 in
set_option maxHeartbeats 400000 in
theorem move_spec (n : Nat) (K : Bx) (X Y : Nat → List Int) (lv : Nat → Value) (M : Mem) (hM : BMl n K X Y lv M) (a b : Nat) (ha : a < n) (hb : b < n) (hab : a ≠ b) (hlb : (X b).length ≤ K.R b) (hR : K.R b ≤ 1000000) {w0 : World} {m0 : Mem} {w : World} (hw0 : Has w0 ((M ++ m0)) w) :
    Calls Try.prog 47 [pS K a, pS K b].toArray w (Post w0 fun v m => ∃ m1, (v = vn .i64 (min (X a).length (K.R b - (X b).length) : Nat) ∧ BMl n K (mv X a b (min (X a).length (K.R b - (X b).length))) Y lv m1) ∧ m = m1 ++ m0) := by
  have hne := hM.ne ha hb hab hw0
  refine calls_of_WCm Try.func47 rfl ?_ hw0
  simp only [Try.ntmps47, List.length_cons, List.length_nil, Nat.reduceAdd, Nat.reduceSub, List.replicate, List.cons_append, List.nil_append]
  refine WC_seq ?_
  refine WC_region ?_
  refine WL_det rfl (det_assign) ?_
  dsimp only [put, List.take, List.drop, List.set, ev, nth, List.nil_append, List.cons_append, md, Nat.reducePow, Nat.reduceAdd, Nat.reduceMul]
  refine WL_nil ?_
  refine WC_seq ?_
  refine WC_region ?_
  refine WL_det rfl (det_assign) ?_
  dsimp only [put, List.take, List.drop, List.set, ev, nth, List.nil_append, List.cons_append, md, Nat.reducePow, Nat.reduceAdd, Nat.reduceMul]
  refine WL_nil ?_
  refine WC_seq ?_
  refine WC_seq ?_
  refine WC_region ?_
  refine WL_det rfl (det_move) ?_
  dsimp only [put, List.take, List.drop, List.set, ev, nth, List.nil_append, List.cons_append, md, Nat.reducePow, Nat.reduceAdd, Nat.reduceMul]
  refine WL_det rfl (det_move) ?_
  dsimp only [put, List.take, List.drop, List.set, ev, nth, List.nil_append, List.cons_append, md, Nat.reducePow, Nat.reduceAdd, Nat.reduceMul]
  refine WL_det rfl (Det.bv false (det_eqlPP (K.sb a) (K.sb b) rfl rfl Try.underlying39 Try.sizeOf88 fun w hw => ⟨(hM.facts ha hw).2.1, (hM.facts hb hw).2.1⟩) (decide_eq_false hne)) ?_
  dsimp only [put, List.take, List.drop, List.set, ev, nth, List.nil_append, List.cons_append, md, Nat.reducePow, Nat.reduceAdd, Nat.reduceMul]
  refine WL_nil ?_
  refine WC_cond_false rfl ?_
  refine WC_skip ?_
  refine WC_seq ?_
  refine WC_block ?_
  refine WC_loopF (ι := Nat × Mem) [12, 13, 14, 16, 17, 15, 18, 19, 6, 7, 20, 21, 22, 23, 24, 25, 26] (fun x => [(5, vn .i64 (x.1))]) (fun x => x.2 ++ m0) (fun x => x.1 ≤ min (X a).length (K.R b - (X b).length) ∧ BMl n K (mv X a b x.1) Y lv x.2) (fun x => (X a).length + 1 - x.1) (0, M) ?_ ?_ ?_ ?_
  · rfl
  · rfl
  · exact ⟨Nat.zero_le _, by rw [mv_zero X hab]; exact hM⟩
  · rintro ⟨k, M⟩ g' ⟨hk, hM⟩
    dsimp only [setAll, setG, setM, List.set]
    dsimp only at hk hM
    refine WC_seq ?_
    refine WC_seq ?_
    refine WC_region ?_
    refine WL_det rfl (det_move) ?_
    dsimp only [put, List.take, List.drop, List.set, ev, nth, List.nil_append, List.cons_append, md, Nat.reducePow, Nat.reduceAdd, Nat.reduceMul]
    refine WL_rel rfl (Rel_call rfl Try.call18 (fun w hw => roomB hM hb (by rw [mv_b]; simp; omega) hR hw)) ?_
    rintro _ _ ⟨rfl, rfl⟩
    dsimp only [put, List.append_nil, List.set, ev, nth, List.nil_append, List.cons_append, md, Nat.reducePow, Nat.reduceAdd, Nat.reduceMul]
    try simp only [List.append_nil]
    refine WL_det rfl (det_gtr (q := 0) rfl rfl) ?_
    dsimp only [put, List.take, List.drop, List.set, ev, nth, List.nil_append, List.cons_append, md, Nat.reducePow, Nat.reduceAdd, Nat.reduceMul]
    refine WL_nil ?_
    refine WC_cond rfl (fun hc1 => ?_) (fun hc1 => ?_)
    · have hc1 := of_decide_eq_true hc1
      rw [mv_b, List.length_append, List.length_take] at hc1
      refine WC_skip ?_
      refine WC_block ?_
      refine WC_seq ?_
      refine WC_region ?_
      refine WL_det rfl (det_move) ?_
      dsimp only [put, List.take, List.drop, List.set, ev, nth, List.nil_append, List.cons_append, md, Nat.reducePow, Nat.reduceAdd, Nat.reduceMul]
      refine WL_chg rfl (Chg_callT [] _ _ rfl Try.call45 rfl (fun w mm hw => takeB hM ha w mm hw)) ?_
      rintro _ _ ⟨M1, ⟨rfl, hM1⟩, rfl⟩
      dsimp only [put, setM, List.zip, List.zipWith, List.take, List.drop, List.append_nil, List.set, ev, nth, List.nil_append, List.cons_append, md, Nat.reducePow, Nat.reduceAdd, Nat.reduceMul]
      refine WL_det rfl (det_move) ?_
      dsimp only [put, List.take, List.drop, List.set, ev, nth, List.nil_append, List.cons_append, md, Nat.reducePow, Nat.reduceAdd, Nat.reduceMul]
      refine WL_det rfl (det_extract rfl rfl) ?_
      dsimp only [put, List.take, List.drop, List.set, ev, nth, List.nil_append, List.cons_append, md, Nat.reducePow, Nat.reduceAdd, Nat.reduceMul]
      refine WL_det rfl (det_extract rfl rfl) ?_
      dsimp only [put, List.take, List.drop, List.set, ev, nth, List.nil_append, List.cons_append, md, Nat.reducePow, Nat.reduceAdd, Nat.reduceMul]
      refine WL_det rfl (det_assign) ?_
      dsimp only [put, List.take, List.drop, List.set, ev, nth, List.nil_append, List.cons_append, md, Nat.reducePow, Nat.reduceAdd, Nat.reduceMul]
      refine WL_det rfl (det_assign) ?_
      dsimp only [put, List.take, List.drop, List.set, ev, nth, List.nil_append, List.cons_append, md, Nat.reducePow, Nat.reduceAdd, Nat.reduceMul]
      refine WL_nil ?_
      refine WC_seq ?_
      refine WC_seq ?_
      refine WC_region ?_
      refine WL_det rfl (det_move) ?_
      dsimp only [put, List.take, List.drop, List.set, ev, nth, List.nil_append, List.cons_append, md, Nat.reducePow, Nat.reduceAdd, Nat.reduceMul]
      refine WL_det rfl (det_not rfl) ?_
      dsimp only [put, List.take, List.drop, List.set, ev, nth, List.nil_append, List.cons_append, md, Nat.reducePow, Nat.reduceAdd, Nat.reduceMul]
      refine WL_nil ?_
      refine WC_cond rfl (fun hc2 => ?_) (fun hc2 => ?_)
      · have he : mv X a b k a = [] := by cases h : mv X a b k a <;> simp_all
        obtain rfl : k = min (X a).length (K.R b - (X b).length) := by rw [mv_a X hab] at he; have := List.drop_eq_nil_iff.1 he; omega
        rw [he, List.tail_nil, ← he, up_eta] at hM1
        have hM := hM1
        refine WC_exit ?_
        refine inB_other (by decide) ?_
        refine inB_same ?_
        refine WC_seq ?_
        refine WC_region ?_
        refine WL_det rfl (det_move) ?_
        dsimp only [put, List.take, List.drop, List.set, ev, nth, List.nil_append, List.cons_append, md, Nat.reducePow, Nat.reduceAdd, Nat.reduceMul]
        refine WL_det rfl (det_assign) ?_
        dsimp only [put, List.take, List.drop, List.set, ev, nth, List.nil_append, List.cons_append, md, Nat.reducePow, Nat.reduceAdd, Nat.reduceMul]
        refine WL_nil ?_
        refine WC_ret ?_
        refine fin_tmp Try.results47 rfl (_) (List.Sublist.refl _) ?_
        exact ⟨_, ⟨rfl, hM⟩, rfl⟩
      · have hk2 : k < (X a).length := by rw [mv_a X hab] at hc2; rcases Nat.lt_or_ge k (X a).length with h | h; exact h; rw [List.drop_eq_nil_iff.2 h] at hc2; simp at hc2
        refine WC_skip ?_
        refine WC_seq ?_
        refine WC_region ?_
        refine WL_det rfl (det_move) ?_
        dsimp only [put, List.take, List.drop, List.set, ev, nth, List.nil_append, List.cons_append, md, Nat.reducePow, Nat.reduceAdd, Nat.reduceMul]
        refine WL_det rfl (det_move) ?_
        dsimp only [put, List.take, List.drop, List.set, ev, nth, List.nil_append, List.cons_append, md, Nat.reducePow, Nat.reduceAdd, Nat.reduceMul]
        refine WL_chg rfl (Chg_callT [] _ _ rfl Try.call40 rfl (fun w mm hw => putB hM1 hb ((mv X a b k a).headD 0) w mm hw)) ?_
        rintro _ _ ⟨M2, ⟨rfl, hM2⟩, rfl⟩
        dsimp only [put, setM, List.zip, List.zipWith, List.take, List.drop, List.append_nil, List.set, ev, nth, List.nil_append, List.cons_append, md, Nat.reducePow, Nat.reduceAdd, Nat.reduceMul]
        refine WL_nil ?_
        refine WC_region ?_
        refine WL_det rfl (det_move) ?_
        dsimp only [put, List.take, List.drop, List.set, ev, nth, List.nil_append, List.cons_append, md, Nat.reducePow, Nat.reduceAdd, Nat.reduceMul]
        refine WL_det rfl (det_addi (q := 1) rfl rfl (by omega)) ?_
        dsimp only [put, List.take, List.drop, List.set, ev, nth, List.nil_append, List.cons_append, md, Nat.reducePow, Nat.reduceAdd, Nat.reduceMul]
        refine WL_det rfl (det_assign) ?_
        dsimp only [put, List.take, List.drop, List.set, ev, nth, List.nil_append, List.cons_append, md, Nat.reducePow, Nat.reduceAdd, Nat.reduceMul]
        refine WL_nil ?_
        refine ⟨(k + 1, M2), ?_, ?_, ?_, ?_⟩
        · rfl
        · rfl
        · refine ⟨by dsimp only; omega, ?_⟩
          dsimp only
          rw [up_ne _ _ hab.symm, if_pos (by rw [mv_b, List.length_append, List.length_take]; omega), mv_step X hab hk2] at hM2
          exact hM2
        · dsimp only; omega
    · have hc1 := of_decide_eq_false hc1
      rw [mv_b, List.length_append, List.length_take] at hc1
      obtain rfl : k = min (X a).length (K.R b - (X b).length) := by omega
      refine WC_exit ?_
      refine inB_same ?_
      refine WC_seq ?_
      refine WC_region ?_
      refine WL_det rfl (det_move) ?_
      dsimp only [put, List.take, List.drop, List.set, ev, nth, List.nil_append, List.cons_append, md, Nat.reducePow, Nat.reduceAdd, Nat.reduceMul]
      refine WL_det rfl (det_assign) ?_
      dsimp only [put, List.take, List.drop, List.set, ev, nth, List.nil_append, List.cons_append, md, Nat.reducePow, Nat.reduceAdd, Nat.reduceMul]
      refine WL_nil ?_
      refine WC_ret ?_
      refine fin_tmp Try.results47 rfl (_) (List.Sublist.refl _) ?_
      exact ⟨_, ⟨rfl, hM⟩, rfl⟩

end Go.Proofs.Ytocmlaloafmfkaa

set_option linter.unusedVariables false
namespace Go.Proofs.Ytocmlaloafmfkaa
open Go.MW
theorem place_k (d : Int) (a : Nat) (h : pl d = a) (w : World) : Calls Try.prog 43 #[.int .i64 d] w (PostV w (vn .i64 a)) := h ▸ place_spec d w
theorem RdZ.l {w : World} {l : List Int} {v : Value} (h : RdZ w l v) : RdL w (iv l) v := by
  obtain ⟨p, c, b, o, rfl, h1, h2⟩ := h
  exact ⟨p, c, b, o, by rw [iv_len], by rw [iv_len]; exact h1, fun i hi => by rw [iv_len] at hi; rw [h2 i hi, iv_at l hi]⟩
theorem BMl.cell0 {n : Nat} {K : Bx} {X Y : Nat → List Int} {lv : Nat → Value} {M mm : Mem} {w0 w : World} (h : BMl n K X Y lv M) {a : Nat} (ha : a < n) (hw : Has w0 (M ++ mm) w) : w.cell? ⟨K.wb a, 0, none⟩ = some (lv a) := by
  simp [World.cell?, (h.facts ha hw).2.2.1]
theorem BMl.cell1 {n : Nat} {K : Bx} {X Y : Nat → List Int} {lv : Nat → Value} {M mm : Mem} {w0 w : World} (h : BMl n K X Y lv M) {a : Nat} (ha : a < n) (hw : Has w0 (M ++ mm) w) : w.cell? ⟨K.wb a, 1, none⟩ = some (vn .i64 (K.R a)) := by
  simp [World.cell?, (h.facts ha hw).2.2.1]
theorem BMl.slice {n : Nat} {K : Bx} {X Y : Nat → List Int} {lv : Nat → Value} {M : Mem} (h : BMl n K X Y lv M) {a : Nat} (ha : a < n) : ∃ p c, lv a = .slice p (Y a).length c := by
  obtain ⟨C, Q, _, hQ, _⟩ := h
  obtain ⟨p, c, e, _⟩ := (hQ a ha).slice
  rw [iv_len] at e
  exact ⟨p, c, e⟩
theorem drainB {n : Nat} {K : Bx} {X Y : Nat → List Int} {lv : Nat → Value} {M : Mem} {w0 : World} {a : Nat} (h : BMl n K X Y lv M) (ha : a < n) (hl : (X a).length ≤ 1000000) : ∀ w mm, Has w0 (M ++ mm) w → Calls Try.prog 22 #[pS K a] w (Post w0 fun v m => ∃ m1, (∃ e M', m1 = e :: M' ∧ RowV 3 (X a).length (fun i => .int .i64 ((X a).getD i 0)) v e ∧ BMl n K (up X a []) Y lv M') ∧ m = m1 ++ mm) := by
  intro w mm hw
  obtain ⟨C, q, rest, ⟨s, r, rfl⟩, hq, hp, hb⟩ := h.split ha
  refine (drainI_spec (K.sb a) (K.cb a) (K.R a) s r (X a) hl (m0 := eW K (lv a) a :: q :: (rest ++ mm)) (hw.perm (hp.append_right mm))).mono ?_
  rintro e1 w' ⟨v, mi, rfl, ⟨es, ⟨c1, e2, hc, hr, rfl⟩, rfl⟩, hh⟩
  obtain ⟨M', hM', hp'⟩ := hb (up X a []) Y lv c1 q (fun j hj => ⟨up_ne _ _ hj, rfl, rfl⟩) (by rw [up_self]; exact hc) hq
  refine ⟨_, _, rfl, ⟨e2 :: M', ⟨e2, M', rfl, hr, hM'⟩, rfl⟩, hh.perm ?_⟩
  refine (List.Perm.cons e2 (hp'.append_right mm).symm).trans ?_
  exact (List.perm_append_comm (l₁ := [e2]) (l₂ := [c1, eS K a])).append_right _
/-- A store into a reference's field: nil. -/
theorem chg_storeRef {n : Nat} {K : Bx} {X Y : Nat → List Int} {lv : Nat → Value} {M m : Mem} {w0 : World} {a : Nat} {ρ : Operand → Value} {dst : Option Tmp} {ty : TypeId} {pos : String} {after : Array Edge} {gd : Option (Nat × Bool)} {T : TypeId} {x y : Operand} (pre m0 : Mem) (h : BMl n K X Y lv M) (ha : a < n)
    (hz : ∀ w, (sizeOf T).run Try.prog w = .ok 1 w) (hx : ρ x = .pointer (some ⟨K.wb a, 0, none⟩)) (hy : ρ y = .slice none 0 0) (hm : pre ++ (M ++ m0) = m) :
    Chg Try.prog w0 m ρ ⟨dst, .store T x y, ty, pos, after, gd⟩ (fun _ m' => ∃ m1, (∃ lv', BMl n K X (up Y a []) lv' m1) ∧ m' = pre ++ (m1 ++ m0)) := by
  subst hm
  intro w hw
  obtain ⟨C, q, rest, hC, hq, hp, hb⟩ := h.split ha
  have hp2 := (hp.append_right (pre ++ m0)).trans (perm_mid3 pre M m0)
  refine Runs_mono (chg_storeC 2 (c' := #[.slice none 0 0, vn .i64 (K.R a)]) hz hx rfl (by simp) hy rfl rfl w (hw.perm hp2)) ?_
  rintro v w' ⟨m', rfl, hh⟩
  obtain ⟨M', hM', hp'⟩ := hb X (up Y a []) (up lv a (.slice none 0 0)) C q (fun j hj => ⟨rfl, up_ne _ _ hj, up_ne _ _ hj⟩) hC (by rw [up_self, up_self]; exact RowO.nil _ _)
  rw [up_self] at hp'
  exact ⟨_, ⟨M', ⟨_, hM'⟩, rfl⟩, hh.perm ((hp'.append_right (pre ++ m0)).trans (perm_mid3 pre M' m0)).symm⟩
def fq (a b k : Nat) : Nat := if k = 0 then a else if k = 2 then b else 0
theorem fq_lt {a b n : Nat} (ha : a < n) (hb : b < n) (k : Nat) : fq a b k < n := by unfold fq; split; exact ha; split; exact hb; omega
def fp (K : Bx) (a b k : Nat) : Value := if k = 1 then .pointer none else pS K (fq a b k)
theorem fp_at (K : Bx) (a b : Nat) {k : Nat} (hk : k < 4) : (#[pS K a, .pointer none, pS K b, pS K 0] : Array Value)[k]? = some (fp K a b k) := by
  rcases (by omega : k = 0 ∨ k = 1 ∨ k = 2 ∨ k = 3) with rfl | rfl | rfl | rfl <;> rfl
theorem fp_ne (K : Bx) (a b : Nat) {k : Nat} (hk : k ≠ 1) : fp K a b k = pS K (fq a b k) := by simp [fp, hk]
/-- What First answers, and what is left. -/
def FirstR (n : Nat) (K : Bx) (X Y : Nat → List Int) (lv : Nat → Value) (a b : Nat) (v : Value) (M : Mem) : Prop :=
  ∃ (i : Nat) (x : Int) (ok : Bool) (X1 : Nat → List Int), v = .tuple #[vn .i64 i, .int .i64 x, .bool ok] ∧ BMl n K X1 Y lv M ∧
    ((ok = true ∧ i < 4 ∧ i ≠ 1 ∧ (∀ j, j < i → j ≠ 1 → X (fq a b j) = []) ∧ X (fq a b i) ≠ [] ∧ x = (X (fq a b i)).headD 0 ∧ X1 = up X (fq a b i) (X (fq a b i)).tail) ∨
     (ok = false ∧ i = 0 ∧ x = 0 ∧ (∀ j, j < 4 → j ≠ 1 → X (fq a b j) = []) ∧ X1 = X))

set_option maxRecDepth 100000 in
set_option maxHeartbeats 400000 in
theorem first_spec (n : Nat) (K : Bx) (X Y : Nat → List Int) (lv : Nat → Value) (M : Mem) (hM : BMl n K X Y lv M) (a b br : Nat) (ha : a < n) (hb : b < n) {w0 : World} {m0 : Mem} {w : World} (hw0 : Has w0 ((some br, .cells #[pS K a, .pointer none, pS K b, pS K 0] 39 (0, 0)) :: (M ++ m0)) w) :
    Calls Try.prog 48 [.slice (some ⟨br, 0, none⟩) 4 4].toArray w (Post w0 fun v m => ∃ m1, (∃ M1, FirstR n K X Y lv a b v M1 ∧ m1 = (some br, .cells #[pS K a, .pointer none, pS K b, pS K 0] 39 (0, 0)) :: M1) ∧ m = m1 ++ m0) := by
  have hq := fq_lt ha hb
  refine calls_of_WCm Try.func48 rfl ?_ hw0
  simp only [Try.ntmps48, List.length_cons, List.length_nil, Nat.reduceAdd, Nat.reduceSub, List.replicate, List.cons_append, List.nil_append]
  refine WC_seq ?_
  refine WC_region ?_
  refine WL_det rfl (det_assign) ?_
  dsimp only [put, List.take, List.drop, List.set, ev, nth, List.nil_append, List.cons_append, md, Nat.reducePow, Nat.reduceAdd, Nat.reduceMul]
  refine WL_det rfl (det_assign) ?_
  dsimp only [put, List.take, List.drop, List.set, ev, nth, List.nil_append, List.cons_append, md, Nat.reducePow, Nat.reduceAdd, Nat.reduceMul]
  refine WL_det rfl (det_assign) ?_
  dsimp only [put, List.take, List.drop, List.set, ev, nth, List.nil_append, List.cons_append, md, Nat.reducePow, Nat.reduceAdd, Nat.reduceMul]
  refine WL_nil ?_
  refine WC_seq ?_
  refine WC_seq ?_
  refine WC_region ?_
  refine WL_det rfl (det_move) ?_
  dsimp only [put, List.take, List.drop, List.set, ev, nth, List.nil_append, List.cons_append, md, Nat.reducePow, Nat.reduceAdd, Nat.reduceMul]
  refine WL_det rfl (det_len Try.underlying37 rfl) ?_
  dsimp only [put, List.take, List.drop, List.set, ev, nth, List.nil_append, List.cons_append, md, Nat.reducePow, Nat.reduceAdd, Nat.reduceMul]
  refine WL_det rfl (det_move) ?_
  dsimp only [put, List.take, List.drop, List.set, ev, nth, List.nil_append, List.cons_append, md, Nat.reducePow, Nat.reduceAdd, Nat.reduceMul]
  refine WL_nil ?_
  refine WC_block ?_
  refine WC_loopF (ι := Nat × Mem) [13, 14, 15, 16, 5, 6, 18, 19, 17, 20, 21, 7, 8, 22, 23, 24, 2, 3, 4, 25] (fun x => [(12, vn .i64 (x.1))]) (fun x => (some br, .cells #[pS K a, .pointer none, pS K b, pS K 0] 39 (0, 0)) :: (x.2 ++ m0)) (fun x => x.1 ≤ 4 ∧ (∀ j, j < x.1 → j ≠ 1 → X (fq a b j) = []) ∧ BMl n K X Y lv x.2) (fun x => 4 - x.1) (0, M) ?_ ?_ ?_ ?_
  · rfl
  · rfl
  · exact ⟨Nat.zero_le _, fun j hj => absurd hj (Nat.not_lt_zero _), hM⟩
  · rintro ⟨k, M⟩ g' ⟨hk, hall, hM⟩
    dsimp only [setAll, setG, setM, List.set]
    dsimp only at hk hall hM
    refine WC_seq ?_
    refine WC_region ?_
    refine WL_det rfl (det_lss rfl rfl) ?_
    dsimp only [put, List.take, List.drop, List.set, ev, nth, List.nil_append, List.cons_append, md, Nat.reducePow, Nat.reduceAdd, Nat.reduceMul]
    refine WL_nil ?_
    refine WC_seq ?_
    refine WC_cond rfl (fun hc0 => ?_) (fun hc0 => ?_)
    · have hc0 := of_decide_eq_true hc0
      refine WC_skip ?_
      refine WC_seq ?_
      refine WC_block ?_
      refine WC_seq ?_
      refine WC_region ?_
      refine WL_det rfl (det_move) ?_
      dsimp only [put, List.take, List.drop, List.set, ev, nth, List.nil_append, List.cons_append, md, Nat.reducePow, Nat.reduceAdd, Nat.reduceMul]
      refine WL_det rfl (det_idxS0 Try.underlying37 Try.sizeOf39 rfl rfl (rfl) (by omega)) ?_
      dsimp only [put, List.take, List.drop, List.set, ev, nth, List.nil_append, List.cons_append, md, Nat.reducePow, Nat.reduceAdd, Nat.reduceMul]
      refine WL_det rfl (det_load 0 Try.isAgg39 rfl rfl (fp_at K a b (by omega))) ?_
      dsimp only [put, List.take, List.drop, List.set, ev, nth, List.nil_append, List.cons_append, md, Nat.reducePow, Nat.reduceAdd, Nat.reduceMul]
      refine WL_det rfl (det_assign) ?_
      dsimp only [put, List.take, List.drop, List.set, ev, nth, List.nil_append, List.cons_append, md, Nat.reducePow, Nat.reduceAdd, Nat.reduceMul]
      refine WL_det rfl (det_assign) ?_
      dsimp only [put, List.take, List.drop, List.set, ev, nth, List.nil_append, List.cons_append, md, Nat.reducePow, Nat.reduceAdd, Nat.reduceMul]
      refine WL_nil ?_
      refine WC_seq ?_
      by_cases hk1 : k = 1
      · rw [show fp K a b k = .pointer none from by rw [hk1]; rfl]
        have hM1 := hM
        have he : k ≠ 1 → X (fq a b k) = [] := fun h => absurd hk1 h
        refine WC_region ?_
        refine WL_det rfl (det_move) ?_
        dsimp only [put, List.take, List.drop, List.set, ev, nth, List.nil_append, List.cons_append, md, Nat.reducePow, Nat.reduceAdd, Nat.reduceMul]
        refine WL_rel rfl (Rel_call rfl Try.call45 (fun w hw => takeI_nil w)) ?_
        rintro _ _ ⟨rfl, rfl⟩
        dsimp only [put, List.append_nil, List.set, ev, nth, List.nil_append, List.cons_append, md, Nat.reducePow, Nat.reduceAdd, Nat.reduceMul]
        try simp only [List.append_nil]
        refine WL_det rfl (det_move) ?_
        dsimp only [put, List.take, List.drop, List.set, ev, nth, List.nil_append, List.cons_append, md, Nat.reducePow, Nat.reduceAdd, Nat.reduceMul]
        refine WL_det rfl (det_extract rfl rfl) ?_
        dsimp only [put, List.take, List.drop, List.set, ev, nth, List.nil_append, List.cons_append, md, Nat.reducePow, Nat.reduceAdd, Nat.reduceMul]
        refine WL_det rfl (det_extract rfl rfl) ?_
        dsimp only [put, List.take, List.drop, List.set, ev, nth, List.nil_append, List.cons_append, md, Nat.reducePow, Nat.reduceAdd, Nat.reduceMul]
        refine WL_det rfl (det_assign) ?_
        dsimp only [put, List.take, List.drop, List.set, ev, nth, List.nil_append, List.cons_append, md, Nat.reducePow, Nat.reduceAdd, Nat.reduceMul]
        refine WL_det rfl (det_assign) ?_
        dsimp only [put, List.take, List.drop, List.set, ev, nth, List.nil_append, List.cons_append, md, Nat.reducePow, Nat.reduceAdd, Nat.reduceMul]
        refine WL_nil ?_
        refine WC_seq ?_
        refine WC_region ?_
        refine WL_det rfl (det_move) ?_
        dsimp only [put, List.take, List.drop, List.set, ev, nth, List.nil_append, List.cons_append, md, Nat.reducePow, Nat.reduceAdd, Nat.reduceMul]
        refine WL_nil ?_
        refine WC_cond_false rfl ?_
        refine WC_skip ?_
        refine WC_region ?_
        refine WL_det rfl (det_addi (q := 1) rfl rfl (by omega)) ?_
        dsimp only [put, List.take, List.drop, List.set, ev, nth, List.nil_append, List.cons_append, md, Nat.reducePow, Nat.reduceAdd, Nat.reduceMul]
        refine WL_det rfl (det_move) ?_
        dsimp only [put, List.take, List.drop, List.set, ev, nth, List.nil_append, List.cons_append, md, Nat.reducePow, Nat.reduceAdd, Nat.reduceMul]
        refine WL_nil ?_
        refine ⟨(k + 1, M), ?_, ?_, ?_, ?_⟩
        · rfl
        · rfl
        · exact ⟨by dsimp only; omega, fun j hj hj1 => by rcases Nat.lt_succ_iff_lt_or_eq.1 hj with h | rfl; exact hall j h hj1; exact he hj1, hM1⟩
        · dsimp only; omega
      · rw [fp_ne K a b hk1]
        refine WC_region ?_
        refine WL_det rfl (det_move) ?_
        dsimp only [put, List.take, List.drop, List.set, ev, nth, List.nil_append, List.cons_append, md, Nat.reducePow, Nat.reduceAdd, Nat.reduceMul]
        refine WL_chg rfl (Chg_callT [_] _ _ rfl Try.call45 rfl (fun w mm hw => takeB hM (hq k) w mm hw)) ?_
        rintro _ _ ⟨M, ⟨rfl, hM1⟩, rfl⟩
        dsimp only [put, setM, List.zip, List.zipWith, List.take, List.drop, List.append_nil, List.set, ev, nth, List.nil_append, List.cons_append, md, Nat.reducePow, Nat.reduceAdd, Nat.reduceMul]
        refine WL_det rfl (det_move) ?_
        dsimp only [put, List.take, List.drop, List.set, ev, nth, List.nil_append, List.cons_append, md, Nat.reducePow, Nat.reduceAdd, Nat.reduceMul]
        refine WL_det rfl (det_extract rfl rfl) ?_
        dsimp only [put, List.take, List.drop, List.set, ev, nth, List.nil_append, List.cons_append, md, Nat.reducePow, Nat.reduceAdd, Nat.reduceMul]
        refine WL_det rfl (det_extract rfl rfl) ?_
        dsimp only [put, List.take, List.drop, List.set, ev, nth, List.nil_append, List.cons_append, md, Nat.reducePow, Nat.reduceAdd, Nat.reduceMul]
        refine WL_det rfl (det_assign) ?_
        dsimp only [put, List.take, List.drop, List.set, ev, nth, List.nil_append, List.cons_append, md, Nat.reducePow, Nat.reduceAdd, Nat.reduceMul]
        refine WL_det rfl (det_assign) ?_
        dsimp only [put, List.take, List.drop, List.set, ev, nth, List.nil_append, List.cons_append, md, Nat.reducePow, Nat.reduceAdd, Nat.reduceMul]
        refine WL_nil ?_
        refine WC_seq ?_
        refine WC_region ?_
        refine WL_det rfl (det_move) ?_
        dsimp only [put, List.take, List.drop, List.set, ev, nth, List.nil_append, List.cons_append, md, Nat.reducePow, Nat.reduceAdd, Nat.reduceMul]
        refine WL_nil ?_
        refine WC_cond rfl (fun hc1 => ?_) (fun hc1 => ?_)
        · refine WC_seq ?_
          refine WC_region ?_
          refine WL_det rfl (det_move) ?_
          dsimp only [put, List.take, List.drop, List.set, ev, nth, List.nil_append, List.cons_append, md, Nat.reducePow, Nat.reduceAdd, Nat.reduceMul]
          refine WL_det rfl (det_move) ?_
          dsimp only [put, List.take, List.drop, List.set, ev, nth, List.nil_append, List.cons_append, md, Nat.reducePow, Nat.reduceAdd, Nat.reduceMul]
          refine WL_det rfl (det_assign) ?_
          dsimp only [put, List.take, List.drop, List.set, ev, nth, List.nil_append, List.cons_append, md, Nat.reducePow, Nat.reduceAdd, Nat.reduceMul]
          refine WL_det rfl (det_assign) ?_
          dsimp only [put, List.take, List.drop, List.set, ev, nth, List.nil_append, List.cons_append, md, Nat.reducePow, Nat.reduceAdd, Nat.reduceMul]
          refine WL_det rfl (det_assign) ?_
          dsimp only [put, List.take, List.drop, List.set, ev, nth, List.nil_append, List.cons_append, md, Nat.reducePow, Nat.reduceAdd, Nat.reduceMul]
          refine WL_nil ?_
          refine WC_ret ?_
          refine inB_ret ?_
          refine inB_ret ?_
          refine fin_tmp3 Try.results48 rfl rfl rfl (_) (List.Sublist.refl _) ?_
          exact ⟨_, ⟨_, ⟨k, _, true, _, rfl, hM1, .inl ⟨rfl, by omega, hk1, hall, by intro h; rw [h] at hc1; simp at hc1, rfl, rfl⟩⟩, rfl⟩, rfl⟩
        · have he0 : X (fq a b k) = [] := by cases h : X (fq a b k) <;> simp_all
          have he : k ≠ 1 → X (fq a b k) = [] := fun _ => he0
          rw [he0, List.tail_nil, ← he0, up_eta] at hM1
          refine WC_skip ?_
          refine WC_region ?_
          refine WL_det rfl (det_addi (q := 1) rfl rfl (by omega)) ?_
          dsimp only [put, List.take, List.drop, List.set, ev, nth, List.nil_append, List.cons_append, md, Nat.reducePow, Nat.reduceAdd, Nat.reduceMul]
          refine WL_det rfl (det_move) ?_
          dsimp only [put, List.take, List.drop, List.set, ev, nth, List.nil_append, List.cons_append, md, Nat.reducePow, Nat.reduceAdd, Nat.reduceMul]
          refine WL_nil ?_
          refine ⟨(k + 1, M), ?_, ?_, ?_, ?_⟩
          · rfl
          · rfl
          · exact ⟨by dsimp only; omega, fun j hj hj1 => by rcases Nat.lt_succ_iff_lt_or_eq.1 hj with h | rfl; exact hall j h hj1; exact he hj1, hM1⟩
          · dsimp only; omega
    · have hc0 := of_decide_eq_false hc0
      refine WC_exit ?_
      refine inB_same ?_
      refine WC_seq ?_
      refine WC_region ?_
      refine WL_det rfl (det_assign) ?_
      dsimp only [put, List.take, List.drop, List.set, ev, nth, List.nil_append, List.cons_append, md, Nat.reducePow, Nat.reduceAdd, Nat.reduceMul]
      refine WL_nil ?_
      refine WC_seq ?_
      refine WC_region ?_
      refine WL_det rfl (det_move) ?_
      dsimp only [put, List.take, List.drop, List.set, ev, nth, List.nil_append, List.cons_append, md, Nat.reducePow, Nat.reduceAdd, Nat.reduceMul]
      refine WL_det rfl (det_assign) ?_
      dsimp only [put, List.take, List.drop, List.set, ev, nth, List.nil_append, List.cons_append, md, Nat.reducePow, Nat.reduceAdd, Nat.reduceMul]
      refine WL_det rfl (det_assign) ?_
      dsimp only [put, List.take, List.drop, List.set, ev, nth, List.nil_append, List.cons_append, md, Nat.reducePow, Nat.reduceAdd, Nat.reduceMul]
      refine WL_det rfl (det_assign) ?_
      dsimp only [put, List.take, List.drop, List.set, ev, nth, List.nil_append, List.cons_append, md, Nat.reducePow, Nat.reduceAdd, Nat.reduceMul]
      refine WL_nil ?_
      refine WC_ret ?_
      refine fin_tmp3 Try.results48 rfl rfl rfl (_) (List.Sublist.refl _) ?_
      exact ⟨_, ⟨_, ⟨0, 0, false, _, rfl, hM, .inr ⟨rfl, rfl, rfl, fun j hj => hall j (by omega), rfl⟩⟩, rfl⟩, rfl⟩

theorem perm_first (pre M m0 : Mem) (e : Option Nat × Obj) : (e :: (M ++ (pre ++ m0))).Perm (pre ++ (M ++ m0) ++ [e]) :=
  (List.Perm.cons e (perm_mid3 pre M m0)).trans (List.perm_append_comm (l₁ := [e]))
theorem chg_first {n : Nat} {K : Bx} {X Y : Nat → List Int} {lv : Nat → Value} {M m : Mem} {w0 : World} {a b br : Nat} {ρ : Operand → Value} {dst : Option Tmp} {ty : TypeId} {pos : String} {after : Array Edge} {gd : Option (Nat × Bool)} {ats : Array TypeId} {x y : Operand} (pre m0 : Mem) (h : BMl n K X Y lv M) (ha : a < n) (hb : b < n)
    (hx : ρ x = .func (.func 48) #[] #[]) (hy : ρ y = .slice (some ⟨br, 0, none⟩) 4 4) (hm : pre ++ (M ++ m0) ++ [(some br, .cells #[pS K a, .pointer none, pS K b, pS K 0] 39 (0, 0))] = m) :
    Chg Try.prog w0 m ρ ⟨dst, .call { callee := .value x, args := #[y], argTypes := ats }, ty, pos, after, gd⟩ (fun v m' => ∃ m1, FirstR n K X Y lv a b v m1 ∧ m' = pre ++ (m1 ++ m0)) := by
  subst hm
  refine Chg_call (args := [y]) hx Try.call48 fun w hw => ?_
  rw [show [y].map ρ = [ρ y] from rfl, hy]
  refine (first_spec n K X Y lv M h a b br ha hb (m0 := pre ++ m0) (hw.perm (perm_first pre M m0 _))).mono ?_
  rintro e1 w' ⟨v, mi, rfl, ⟨m1, ⟨M1, hR, rfl⟩, rfl⟩, hh⟩
  exact ⟨v, _, rfl, ⟨M1, hR, rfl⟩, (Has.dropN hh 1).perm (perm_mid3 M1 pre m0)⟩

end Go.Proofs.Ytocmlaloafmfkaa
