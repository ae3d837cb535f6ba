/- What the claim of this folder needs of its texts, put together by a program of this claim. Conditions: none. -/
import Derived.Test.YtocmlaloafmfkaaBLM14
set_option linter.unusedSectionVars false
set_option linter.unusedSimpArgs false
set_option linter.unusedVariables false
set_option linter.unusedVariables false
namespace Go.Proofs.Ytocmlaloafmfkaa
open Go.MW
theorem RdL.take {w : World} {l : List Value} {p : Option Addr} {n c : Nat} (h : RdL w l (.slice p n c)) {k : Nat} (hk : k ≤ l.length) : RdL w (l.take k) (.slice p k c) := by
  obtain ⟨p', c', b, o, h1, h2, h3⟩ := h
  simp only [Value.slice.injEq] at h1
  obtain ⟨rfl, rfl, rfl⟩ := h1
  have hl : (l.take k).length = k := by rw [List.length_take]; omega
  refine ⟨p, c, b, o, by rw [hl], fun h0 => h2 (by omega), fun i hi => ?_⟩
  rw [hl] at hi
  rw [h3 i (by omega), List.getElem?_take_of_lt hi]
theorem in_b (L : List Int) (x : Int) (v : Value) (b : Bool) (hb : decide (x ∈ L) = b) (hn : L.length ≤ 1000000) (w : World) (hr : RdL w (iv L) v) : Calls Try.prog 26 #[v, .int .i64 x] w (PostV w (.bool b)) := hb ▸ in_spec L x v hn w hr
end Go.Proofs.Ytocmlaloafmfkaa
