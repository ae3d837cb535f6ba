/- What the claim of this folder needs of its texts, put together by a program of this claim. Conditions: none. -/
import Derived.WalkKit
import Derived.ProofKit
import Derived.OpenShut
import Derived.ShutString
import Derived.ChangeOld
import Derived.Below
import Derived.SliceStrings
import Derived.Test.YtocmlaloafmfkaaBMO1
namespace Go.MW
open Go.ChangeShapes Go.WideShapes Go.ChangeAt Go.RowKit

theorem PostV.law {w : World} {v : Value} {e : Ending} {w' : World} (h : PostV w v e w') : e = .returned v ∧ Below w.heap.size w w' := by
  obtain ⟨v', mi, he, ⟨rfl, _⟩, hw⟩ := h
  exact ⟨he, hw.below⟩
end Go.MW

namespace Go.MW
open Go.ChangeShapes Go.WideShapes Go.ChangeAt Go.RowKit

end Go.MW

namespace Go.MW
open Go.ChangeShapes Go.WideShapes Go.ChangeAt Go.RowKit
theorem open_strS {H : Type} {enc : TypeId × Value → H} {P : Program} {W : World} {b0 base : Nat} {sp : Nat → Bool} {held : Bool} {t e : TypeId} {v : Value} {d : DataW H} {ps : List MemPlace} (ht : P.underlying t = some (.slice e)) (he : P.underlying e = some .string) (hce : P.cellsOf e = 1)
    (hval : Value.okWide P W .any b0 t v) (hd : DataW.Trod enc P W base sp held t v d ps) : ∃ (n : Nat) (g : Nat → ByteArray) (p : Option Addr) (c b o : Nat), v = .slice p n c ∧ n ≤ maxLen ∧ n ≤ c ∧ (0 < n → p = some ⟨b, o, none⟩) ∧ (∀ i, i < n → W.cell? ⟨b, o + i, none⟩ = some (.string (g i))) ∧ ∀ i, i < n → (g i).size ≤ maxLen := by
  obtain ⟨a0, len0, cap0, rfl⟩ := okWide_slice ht hval
  obtain ⟨fuel, hf⟩ := hd
  rcases open_strings ht he hce hf with ⟨hcs, _⟩ | ⟨x, l, c, zs, hcs, _, hl, hm, hz, _, hcell, hsz⟩
  · simp [Value.cells] at hcs
    obtain ⟨rfl, rfl, rfl⟩ := hcs
    exact ⟨0, fun _ => ByteArray.empty, none, 0, 0, 0, rfl, Nat.zero_le _, Nat.le_refl _, fun h => by omega, fun i hi => by omega, fun i hi => by omega⟩
  · simp [Value.cells] at hcs
    obtain ⟨rfl, rfl, rfl⟩ := hcs
    have hlen : len0 ≤ zs.length := by rw [hz]; split <;> omega
    by_cases h0 : len0 = 0
    · subst h0
      exact ⟨0, fun _ => ByteArray.empty, _, _, 0, 0, rfl, Nat.zero_le _, hl, fun h => by omega, fun i hi => by omega, fun i hi => by omega⟩
    obtain ⟨b, off, spot⟩ := x
    have hc := hcell 0 (by omega)
    have hspot : spot = none := by simpa [Addr.add] using World.cell?_spot hc
    subst hspot
    refine ⟨len0, fun i => zs.getD i ByteArray.empty, _, cap0, b, off, rfl, by omega, hl, fun _ => rfl, fun i hi => ?_, fun i hi => hsz _ ?_⟩
    · have h1 := hcell i (by omega)
      rwa [Addr.add_lit] at h1
    · show zs.getD i ByteArray.empty ∈ zs
      rw [List.getD_eq_getElem?_getD, List.getElem?_eq_getElem (show i < zs.length by omega)]; exact List.getElem_mem _
end Go.MW
