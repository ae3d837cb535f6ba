/- What the claim of this folder needs of its texts, put together by a program of this claim. Conditions: none. -/
import Derived.WalkKit
import Derived.ProofKit
import Derived.OpenShut
import Derived.ShutString
import Derived.ChangeOld
import Derived.Below
import Derived.SliceStrings
import Derived.Deep.Slices
import Derived.Test.YtocmlaloafmfkaaBLO1
set_option linter.unusedSectionVars false
set_option linter.unusedSimpArgs false
set_option linter.unusedVariables false
namespace Go.MW
open Go.ChangeShapes Go.WideShapes Go.ChangeAt Go.RowKit

theorem PostV.law {w : World} {v : Value} {e : Ending} {w' : World} (h : PostV w v e w') : e = .returned v ∧ Below w.heap.size w w' := by
  obtain ⟨v', mi, he, ⟨rfl, _⟩, hw⟩ := h
  exact ⟨he, hw.below⟩
end Go.MW

namespace Go.MW
open Go.ChangeShapes Go.WideShapes Go.ChangeAt Go.RowKit

end Go.MW

namespace Go.MW
open Go.ChangeShapes Go.WideShapes Go.ChangeAt Go.RowKit
end Go.MW

namespace Go.MW
open Go.ChangeShapes Go.WideShapes Go.ChangeAt Go.RowKit

theorem cells_of {cs : List Value} {s : Nat} (hl : cs.length = s) (h : ∀ i, i < s → ∃ z : Int, (cs.drop i).take 1 = [.int .i64 z] ∧ (Lit.int .i64 z).wf = true) :
    ∃ z : Nat → Int, cs = (List.range s).map (fun j => .int .i64 (z j)) ∧ ∀ j, j < s → (Lit.int .i64 (z j)).wf = true := by
  let z : Nat → Int := fun i => match cs[i]? with | some (.int _ x) => x | _ => 0
  have hz : ∀ i, i < s → cs[i]? = some (.int .i64 (z i)) ∧ (Lit.int .i64 (z i)).wf = true := by
    intro i hi
    obtain ⟨x, h1, h2⟩ := h i hi
    have e : cs[i]? = some (.int .i64 x) := by
      have : ((cs.drop i).take 1)[0]? = some (.int .i64 x) := by rw [h1]; rfl
      simpa using this
    have : z i = x := by show (match cs[i]? with | some (.int _ x) => x | _ => 0) = x; rw [e]
    rw [this]; exact ⟨e, h2⟩
  refine ⟨z, ?_, fun j hj => (hz j hj).2⟩
  apply List.ext_getElem?
  intro i
  by_cases hi : i < s
  · rw [(hz i hi).1]; simp [hi]
  · rw [List.getElem?_eq_none (by omega), List.getElem?_eq_none (by simp; omega)]
theorem el_array {H : Type} {enc : TypeId × Value → H} {P : Program} {W : World} {base : Nat} {sp : Nat → Bool} {held : Bool} {e s q : Nat} (he : P.underlying e = some (.array s q)) (ce : P.cellsOf e = s) (hq : P.underlying q = some (.int .i64)) (cq : P.cellsOf q = 1)
    (n : Nat) (cs : List Value) (x : DataW H × List MemPlace) (hd : DataW.trod enc P W base sp held n e cs = some x) :
    ∃ z : Nat → Int, cs = (List.range s).map (fun j => .int .i64 (z j)) ∧ ∀ j, j < s → (Lit.int .i64 (z j)).wf = true := by
  obtain ⟨xs, m, _, _, hcl, hl, hel⟩ := DataW.trod_array he hd
  rw [ce] at hcl
  refine cells_of hcl fun i hi => ?_
  have h := hel i hi
  obtain ⟨y, hy⟩ : ∃ y, xs[i]? = some y := ⟨xs[i], by simp [hl, hi]⟩
  rw [hy, cq, Nat.mul_one] at h
  obtain ⟨z, e1, _, w1⟩ := DataW.trod_int hq h
  exact ⟨z, e1, w1⟩
theorem open_slice_z {H : Type} {enc : TypeId × Value → H} {P : Program} {W : World} {b0 base : Nat} {sp : Nat → Bool} {held : Bool} {t e s : Nat} {v : Value} {d : DataW H} {ps : List MemPlace} (ht : P.underlying t = some (.slice e)) (ce : P.cellsOf e = s) (hs : 0 < s)
    (hel : ∀ n cs (x : DataW H × List MemPlace), DataW.trod enc P W base sp held n e cs = some x → ∃ z : Nat → Int, cs = (List.range s).map (fun j => .int .i64 (z j)) ∧ ∀ j, j < s → (Lit.int .i64 (z j)).wf = true)
    (hval : Value.okWide P W .any b0 t v) (hd : DataW.Trod enc P W base sp held t v d ps) :
    ∃ (n : Nat) (g : Nat → Nat → Int) (p : Option Addr) (c b o : Nat), v = .slice p n c ∧ n ≤ maxLen ∧ n ≤ c ∧ (0 < n → p = some ⟨b, o, none⟩) ∧ (∀ i, i < n → ∀ j, j < s → W.cell? ⟨b, o + s * i + j, none⟩ = some (.int .i64 (g i j))) ∧ ∀ i, i < n → ∀ j, j < s → (Lit.int .i64 (g i j)).wf = true := by
  obtain ⟨a0, len0, cap0, rfl⟩ := okWide_slice ht hval
  obtain ⟨fuel, hf⟩ := hd
  rcases Go.Deep.open_slice ht hf with ⟨hcs, _⟩ | ⟨x, l, c, m, n, D, Pl, hcs, _, hl, hm, hmm, _, hx⟩
  · simp [Value.cells] at hcs
    obtain ⟨rfl, rfl, rfl⟩ := hcs
    exact ⟨0, fun _ _ => 0, none, 0, 0, 0, rfl, Nat.zero_le _, Nat.le_refl _, fun h => by omega, fun i hi => by omega, fun i hi => by omega⟩
  · simp [Value.cells] at hcs
    obtain ⟨rfl, rfl, rfl⟩ := hcs
    have hlm : len0 ≤ m := by rw [hmm]; split <;> omega
    by_cases h0 : len0 = 0
    · subst h0
      exact ⟨0, fun _ _ => 0, _, _, 0, 0, rfl, Nat.zero_le _, hl, fun h => by omega, fun i hi => by omega, fun i hi => by omega⟩
    obtain ⟨b, off, spot⟩ := x
    have each : ∀ i, i < len0 → ∃ z : Nat → Int, ∀ j, j < s → W.cell? ((⟨b, off, spot⟩ : Addr).add (i * s + j)) = some (.int .i64 (z j)) ∧ (Lit.int .i64 (z j)).wf = true := by
      intro i hi
      obtain ⟨cs', h1, h2⟩ := hx i (by omega)
      obtain ⟨z, rfl, hz⟩ := hel _ _ _ h2
      rw [ce] at h1
      obtain ⟨_, hlen, hcell⟩ := World.cells?_some h1
      refine ⟨z, fun j hj => ⟨?_, hz j hj⟩⟩
      have := hcell j hj
      rw [Go.Deep.add_add] at this
      rw [this]; simp [hj]
    obtain ⟨g, hg⟩ := Go.Deep.choose_lt (α := Nat → Int) each
    have hc := (hg 0 (by omega) 0 hs).1
    have hspot : spot = none := by simpa [Addr.add] using World.cell?_spot hc
    subst hspot
    refine ⟨len0, g, _, cap0, b, off, rfl, by omega, hl, fun _ => rfl, fun i hi j hj => ?_, fun i hi j hj => (hg i hi j hj).2⟩
    have h1 := (hg i hi j hj).1
    rw [Addr.add_lit] at h1
    rw [show off + s * i + j = off + (i * s + j) by rw [Nat.mul_comm s i, Nat.add_assoc]]
    exact h1
end Go.MW
