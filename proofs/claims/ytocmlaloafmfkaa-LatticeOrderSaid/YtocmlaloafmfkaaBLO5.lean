/- What the claim of this folder needs of its texts, put together by a program of this claim. Conditions: none. -/
import Derived.Test.YtocmlaloafmfkaaBLO4
set_option linter.unusedSectionVars false
set_option linter.unusedSimpArgs false
set_option linter.unusedVariables false
set_option linter.unusedVariables false
namespace Go.Proofs.Ytocmlaloafmfkaa
open Go.MW
structure Bx where
  cb : Nat → Nat
  sb : Nat → Nat
  wb : Nat → Nat
  R : Nat → Nat
def eS (K : Bx) (a : Nat) : Option Nat × Obj := (some (K.sb a), .cells #[.chan (some (K.cb a)), vn .i64 (K.R a)] 88 (0, 0))
def eW (K : Bx) (v : Value) (a : Nat) : Option Nat × Obj := (some (K.wb a), .cells #[v, vn .i64 (K.R a)] 45 (0, 0))
def g4 (K : Bx) (C Q : Nat → Option Nat × Obj) (lv : Nat → Value) (a : Nat) : Mem := [C a, eS K a, eW K (lv a) a, Q a]
/-- n boxes, each beside its reference: what the boxes hold, what the references hold, the references' rows. -/
def BMl (n : Nat) (K : Bx) (X Y : Nat → List Int) (lv : Nat → Value) (M : Mem) : Prop :=
  ∃ C Q, (∀ a, a < n → ChE (K.cb a) (K.R a) (iv (X a)) (C a)) ∧ (∀ a, a < n → RowO 3 (iv (Y a)) (lv a) (Q a)) ∧ M = (List.range n).flatMap (g4 K C Q lv)
def up {α : Type} (X : Nat → α) (a : Nat) (l : α) : Nat → α := fun i => if i = a then l else X i
theorem up_self {α : Type} (X : Nat → α) (a : Nat) (l : α) : up X a l a = l := by simp [up]
theorem up_ne {α : Type} (X : Nat → α) {a b : Nat} (l : α) (h : b ≠ a) : up X a l b = X b := by simp [up, h]
theorem flatMap_congr' {α β : Type} {f g : α → List β} : ∀ (l : List α), (∀ x ∈ l, f x = g x) → l.flatMap f = l.flatMap g
  | [], _ => rfl
  | x :: l, h => by rw [List.flatMap_cons, List.flatMap_cons, h x (by simp), flatMap_congr' l fun y hy => h y (by simp [hy])]
theorem BMl.split {n : Nat} {K : Bx} {X Y : Nat → List Int} {lv : Nat → Value} {M : Mem} (h : BMl n K X Y lv M) {a : Nat} (ha : a < n) :
    ∃ C q rest, ChE (K.cb a) (K.R a) (iv (X a)) C ∧ RowO 3 (iv (Y a)) (lv a) q ∧ (C :: eS K a :: eW K (lv a) a :: q :: rest).Perm M ∧
      ∀ (X' Y' : Nat → List Int) (lv' : Nat → Value) (C' q' : Option Nat × Obj), (∀ j, j ≠ a → X' j = X j ∧ Y' j = Y j ∧ lv' j = lv j) → ChE (K.cb a) (K.R a) (iv (X' a)) C' → RowO 3 (iv (Y' a)) (lv' a) q' →
        ∃ M', BMl n K X' Y' lv' M' ∧ (C' :: eS K a :: eW K (lv' a) a :: q' :: rest).Perm M' := by
  obtain ⟨C, Q, hC, hQ, rfl⟩ := h
  have hp := range_pick [a] (by simp) n (by simpa using ha)
  refine ⟨C a, Q a, ((List.range n).filter fun j => ![a].contains j).flatMap (g4 K C Q lv), hC a ha, hQ a ha, ?_, ?_⟩
  · have := hp.flatMap_right (g4 K C Q lv)
    simpa [g4] using this
  · intro X' Y' lv' C' q' ho hC' hq'
    refine ⟨(List.range n).flatMap (g4 K (up C a C') (up Q a q') lv'), ⟨up C a C', up Q a q', fun j hj => ?_, fun j hj => ?_, rfl⟩, ?_⟩
    · by_cases hja : j = a
      · subst hja; rw [up_self]; exact hC'
      · rw [up_ne _ _ hja, (ho j hja).1]; exact hC j hj
    · by_cases hja : j = a
      · subst hja; rw [up_self]; exact hq'
      · rw [up_ne _ _ hja, (ho j hja).2.1, (ho j hja).2.2]; exact hQ j hj
    · have := hp.flatMap_right (g4 K (up C a C') (up Q a q') lv')
      have he : ((List.range n).filter fun j => ![a].contains j).flatMap (g4 K (up C a C') (up Q a q') lv') = ((List.range n).filter fun j => ![a].contains j).flatMap (g4 K C Q lv) := by
        refine flatMap_congr' _ fun j hj => ?_
        have hja : j ≠ a := by simpa using (List.mem_filter.1 hj).2
        simp only [g4, up_ne _ _ hja, (ho j hja).2.2]
      rw [List.flatMap_append, he] at this
      simpa [g4, up_self] using this
theorem Has.dropN {w0 w : World} {m : Mem} (hw : Has w0 m w) (k : Nat) : Has w0 (m.drop k) w := hw.sub (List.drop_sublist _ _)
theorem BMl.facts {n : Nat} {K : Bx} {X Y : Nat → List Int} {lv : Nat → Value} {M mm : Mem} {w0 w : World} (h : BMl n K X Y lv M) {a : Nat} (ha : a < n) (hw : Has w0 (M ++ mm) w) :
    (∃ s r, w.heap[K.cb a]? = some (.chan (K.R a) (iv (X a)).toArray false s r false)) ∧ w.heap[K.sb a]? = some (.cells #[.chan (some (K.cb a)), vn .i64 (K.R a)] 88 (0, 0)) ∧ w.heap[K.wb a]? = some (.cells #[lv a, vn .i64 (K.R a)] 45 (0, 0)) ∧ RdZ w (Y a) (lv a) := by
  obtain ⟨C, q, rest, ⟨s, r, rfl⟩, hq, hp, _⟩ := h.split ha
  have hw' := hw.perm (hp.append_right mm)
  exact ⟨⟨s, r, hw'.at 0 rfl⟩, hw'.at 1 rfl, hw'.at 2 rfl, RdL.z (hq.rd hw' 3 rfl)⟩
section
variable {n : Nat} {K : Bx} {X Y : Nat → List Int} {lv : Nat → Value} {M : Mem} {w0 : World} {a : Nat}
end

end Go.Proofs.Ytocmlaloafmfkaa

set_option linter.unusedVariables false
namespace Go.Proofs.Ytocmlaloafmfkaa
open Go.MW
end Go.Proofs.Ytocmlaloafmfkaa

set_option linter.unusedVariables false
namespace Go.Proofs.Ytocmlaloafmfkaa
open Go.MW
theorem RdZ.l {w : World} {l : List Int} {v : Value} (h : RdZ w l v) : RdL w (iv l) v := by
  obtain ⟨p, c, b, o, rfl, h1, h2⟩ := h
  exact ⟨p, c, b, o, by rw [iv_len], by rw [iv_len]; exact h1, fun i hi => by rw [iv_len] at hi; rw [h2 i hi, iv_at l hi]⟩
theorem BMl.slice {n : Nat} {K : Bx} {X Y : Nat → List Int} {lv : Nat → Value} {M : Mem} (h : BMl n K X Y lv M) {a : Nat} (ha : a < n) : ∃ p c, lv a = .slice p (Y a).length c := by
  obtain ⟨C, Q, _, hQ, _⟩ := h
  obtain ⟨p, c, e, _⟩ := (hQ a ha).slice
  rw [iv_len] at e
  exact ⟨p, c, e⟩
end Go.Proofs.Ytocmlaloafmfkaa
