/- What the claim of this folder needs of its texts, put together by a program of this claim. Conditions: none. -/
import Derived.Test.YtocmlaloafmfkaaBLO14
set_option linter.unusedSectionVars false
set_option linter.unusedSimpArgs false
set_option linter.unusedVariables false
set_option linter.unusedVariables false
namespace Go.Proofs.Ytocmlaloafmfkaa
open Go.MW
theorem RdL.take {w : World} {l : List Value} {p : Option Addr} {n c : Nat} (h : RdL w l (.slice p n c)) {k : Nat} (hk : k ≤ l.length) : RdL w (l.take k) (.slice p k c) := by
  obtain ⟨p', c', b, o, h1, h2, h3⟩ := h
  simp only [Value.slice.injEq] at h1
  obtain ⟨rfl, rfl, rfl⟩ := h1
  have hl : (l.take k).length = k := by rw [List.length_take]; omega
  refine ⟨p, c, b, o, by rw [hl], fun h0 => h2 (by omega), fun i hi => ?_⟩
  rw [hl] at hi
  rw [h3 i (by omega), List.getElem?_take_of_lt hi]
theorem take_mem {L : List (Int × Int)} {q : Nat} (h : q < L.length) (e : Int × Int) : e ∈ L.take (q + 1) ↔ e ∈ L.take q ∨ ((L.getD q (0, 0)).1 = e.1 ∧ (L.getD q (0, 0)).2 = e.2) := by
  rw [List.take_succ_eq_append_getElem h, List.mem_append, List.mem_singleton, List.getD_eq_getElem?_getD, List.getElem?_eq_getElem h]
  constructor
  · rintro (h | rfl)
    · exact .inl h
    · exact .inr ⟨rfl, rfl⟩
  · rintro (h | ⟨h1, h2⟩)
    · exact .inl h
    · exact .inr (Prod.ext h1.symm h2.symm)
end Go.Proofs.Ytocmlaloafmfkaa
