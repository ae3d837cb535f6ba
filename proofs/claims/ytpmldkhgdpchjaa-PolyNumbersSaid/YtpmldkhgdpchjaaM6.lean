/- What a row hands a law: arrays and slices of bytes, read as numbers. Conditions: none. -/
import Derived.Test.YtpmldkhgdpchjaaM5
import Derived.Test.YtpmldkhgdpchjaaA1
import Derived.WalkKit
import Derived.ProofKit
import Derived.OpenShut
import Derived.ShutString
import Derived.ChangeOld
import Derived.Below
namespace Go.MW
open Go.ChangeShapes Go.WideShapes Go.ChangeAt Go.RowKit

theorem wf_u8 {x : Int} (h : (Lit.int .u8 x).wf = true) : 0 ≤ x ∧ x < 256 := by
  simp [Lit.wf, IntKind.min, IntKind.max, IntKind.bits, IntKind.signed] at h
  omega

theorem open_bytesA {H : Type} {enc : TypeId × Value → H} {P : Program} {W : World} {b0 base n : Nat} {sp : Nat → Bool} {held : Bool} {t e : TypeId} {v : Value} {d : DataW H} {ps : List MemPlace} (ht : P.underlying t = some (.array n e)) (he : P.underlying e = some (.int .u8)) (hce : P.cellsOf e = 1) (hct : P.cellsOf t = n)
    (hval : Value.okWide P W .any b0 t v) (hd : DataW.Trod enc P W base sp held t v d ps) : ∃ N, N < 256 ^ n ∧ v = .agg (arr .u8 n (byt N)) := by
  obtain ⟨cs, rfl, hsz, _⟩ : ∃ cs, v = .agg cs ∧ cs.size = P.cellsOf t ∧ Row.okWide P W .any b0 t cs := by
    simpa [Value.okWide, ht] using hval
  obtain ⟨fuel, hf⟩ := hd
  obtain ⟨xs, m, _, _, _, hl, hel⟩ := DataW.trod_array ht hf
  rw [hct] at hsz
  have key : ∀ i, i < n → ∃ x : Nat, cs[i]? = some (vn .u8 x) ∧ x < 256 := by
    intro i hi
    have h := hel i hi
    obtain ⟨y, hy⟩ : ∃ y, xs[i]? = some y := ⟨xs[i], by simp [hl, hi]⟩
    rw [hy] at h
    obtain ⟨x, e1, _, w1⟩ := DataW.trod_int he h
    obtain ⟨h0, h1⟩ := wf_u8 w1
    refine ⟨x.toNat, ?_, by omega⟩
    rw [hce, Nat.mul_one] at e1
    have e2 : (List.drop i cs.toList)[0]? = some (.int .u8 x) := by
      have : ((List.drop i cs.toList).take 1)[0]? = some (.int .u8 x) := by
        simp only [Value.cells] at e1
        rw [e1]; rfl
      simpa using this
    have e3 : cs[i]? = some (.int .u8 x) := by simpa using e2
    rw [e3]
    simp [vn, Int.toNat_of_nonneg h0]
  let f : Nat → Nat := fun i => match cs[i]? with | some (.int _ x) => x.toNat | _ => 0
  have hf2 : ∀ i, i < n → cs[i]? = some (vn .u8 (f i)) ∧ f i < 256 := by
    intro i hi
    obtain ⟨x, h1, h2⟩ := key i hi
    have : f i = x := by show (match cs[i]? with | some (.int _ x) => x.toNat | _ => 0) = x; rw [h1]; simp
    rw [this]; exact ⟨h1, h2⟩
  refine ⟨lev f n, lev_lt f n fun i hi => (hf2 i hi).2, ?_⟩
  congr 1
  refine arr_ext hsz fun i hi => ?_
  rw [(hf2 i hi).1, byt_lev f n (fun i hi => (hf2 i hi).2) i hi]

theorem open_bytesS {H : Type} {enc : TypeId × Value → H} {P : Program} {W : World} {b0 base : Nat} {sp : Nat → Bool} {held : Bool} {t e : TypeId} {v : Value} {d : DataW H} {ps : List MemPlace} (ht : P.underlying t = some (.slice e)) (he : P.underlying e = some (.int .u8)) (hce : P.cellsOf e = 1)
    (hval : Value.okWide P W .any b0 t v) (hd : DataW.Trod enc P W base sp held t v d ps) : ∃ (n : Nat) (f : Nat → Nat) (p : Option Addr) (c : Nat), n ≤ maxLen ∧ n ≤ c ∧ (∀ i, i < n → f i < 256) ∧ v = .slice p n c ∧ Rd W .u8 n f (.slice p n c) := by
  obtain ⟨a0, len0, cap0, rfl⟩ := okWide_slice ht hval
  obtain ⟨fuel, hf⟩ := hd
  rcases open_ints ht he hce hf with ⟨hcs, _⟩ | ⟨x, l, c, zs, hcs, _, hl, hm, hz, _, hcell, hwz⟩
  · simp [Value.cells] at hcs
    obtain ⟨rfl, rfl, rfl⟩ := hcs
    exact ⟨0, fun _ => 0, none, 0, Nat.zero_le _, Nat.le_refl _, fun _ _ => (by decide : (0 : Nat) < 256), rfl, Rd.nil _ _ _⟩
  · simp [Value.cells] at hcs
    obtain ⟨rfl, rfl, rfl⟩ := hcs
    have hlen : len0 ≤ zs.length := by rw [hz]; split <;> omega
    by_cases h0 : len0 = 0
    · subst h0
      exact ⟨0, fun _ => 0, _, _, Nat.zero_le _, hl, fun _ _ => (by decide : (0 : Nat) < 256), rfl, Rd.zero _ _ _ _ _⟩
    obtain ⟨b, off, spot⟩ := x
    have hc := hcell 0 (by omega)
    have hspot : spot = none := by simpa [Addr.add] using World.cell?_spot hc
    subst hspot
    have hw : ∀ i, i < len0 → 0 ≤ zs.getD i 0 ∧ zs.getD i 0 < 256 := fun i hi => wf_u8 (hwz _ (by
      rw [List.getD_eq_getElem?_getD, List.getElem?_eq_getElem (show i < zs.length by omega)]; exact List.getElem_mem _))
    refine ⟨len0, fun i => (zs.getD i 0).toNat, _, cap0, by omega, hl, fun i hi => by have := hw i hi; show (zs.getD i 0).toNat < 256; omega, rfl, ⟨_, cap0, b, off, rfl, fun _ => rfl, fun i hi => ?_⟩⟩
    have h1 := hcell i (by omega)
    have h2 := (hw i hi).1
    rw [Addr.add_lit] at h1
    rw [show (vn .u8 (zs.getD i 0).toNat) = .int .u8 (zs.getD i 0) by simp only [vn]; rw [Int.toNat_of_nonneg h2]]
    exact h1

theorem open_unsigned {k : IntKind} {x : Int} (h : (Lit.int k x).wf = true) (hk : k.signed = false) : ∃ m : Nat, x = (m : Int) ∧ m < 2 ^ k.bits := by
  simp [Lit.wf, IntKind.min, IntKind.max, hk] at h
  refine ⟨x.toNat, (Int.toNat_of_nonneg h.1).symm, ?_⟩
  have h2 := h.2
  have h3 : ((2 ^ k.bits : Nat) : Int) = (2 : Int) ^ k.bits := by simp
  omega
theorem PostV.law {w : World} {v : Value} {e : Ending} {w' : World} (h : PostV w v e w') : e = .returned v ∧ Below w.heap.size w w' := by
  obtain ⟨v', mi, he, ⟨rfl, _⟩, hw⟩ := h
  exact ⟨he, hw.below⟩
end Go.MW
