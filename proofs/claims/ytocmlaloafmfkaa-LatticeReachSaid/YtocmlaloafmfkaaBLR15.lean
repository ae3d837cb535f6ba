/- What the claim of this folder needs of its texts, put together by a program of this claim. Conditions: none. -/
import Derived.Test.YtocmlaloafmfkaaBLR14
set_option linter.unusedSectionVars false
set_option linter.unusedSimpArgs false
set_option linter.unusedVariables false
set_option linter.unusedVariables false
namespace Go.Proofs.Ytocmlaloafmfkaa
open Go.MW
theorem RdL.take {w : World} {l : List Value} {p : Option Addr} {n c : Nat} (h : RdL w l (.slice p n c)) {k : Nat} (hk : k ≤ l.length) : RdL w (l.take k) (.slice p k c) := by
  obtain ⟨p', c', b, o, h1, h2, h3⟩ := h
  simp only [Value.slice.injEq] at h1
  obtain ⟨rfl, rfl, rfl⟩ := h1
  have hl : (l.take k).length = k := by rw [List.length_take]; omega
  refine ⟨p, c, b, o, by rw [hl], fun h0 => h2 (by omega), fun i hi => ?_⟩
  rw [hl] at hi
  rw [h3 i (by omega), List.getElem?_take_of_lt hi]
theorem path_len {es : List (Int × Int)} {F : List Int} {to : Int} (hto : to ∈ (srch es F).map Prod.fst) : (pathA (srch es F) (((srch es F).map Prod.fst).idxOf to)).length ≤ F.length + 2 * es.length := by
  have h1 := List.idxOf_lt_length_iff.2 hto
  rw [List.length_map] at h1
  have h2 := chainI_len (srch_ok es F).back (((srch es F).map Prod.fst).idxOf to)
  have h3 := stA_len es F (bndA es F)
  have h4 := nodes_len es
  unfold pathA
  rw [List.length_reverse]
  unfold srch at h1 h2 ⊢
  unfold bndA at *
  omega
theorem take_mem {L : List (Int × Int)} {q : Nat} (h : q < L.length) (e : Int × Int) : e ∈ L.take (q + 1) ↔ e ∈ L.take q ∨ ((L.getD q (0, 0)).1 = e.1 ∧ (L.getD q (0, 0)).2 = e.2) := by
  rw [List.take_succ_eq_append_getElem h, List.mem_append, List.mem_singleton, List.getD_eq_getElem?_getD, List.getElem?_eq_getElem h]
  constructor
  · rintro (h | rfl)
    · exact .inl h
    · exact .inr ⟨rfl, rfl⟩
  · rintro (h | ⟨h1, h2⟩)
    · exact .inl h
    · exact .inr (Prod.ext h1.symm h2.symm)
end Go.Proofs.Ytocmlaloafmfkaa
