/- The law LatticeOrder: for every input it returns true, and what it reads stays as it was. Conditions: none. -/
import Derived.Test.YtocmlaloafmfkaaRows
import Derived.Test.YtocmlaloafmfkaaBLO19
set_option linter.unusedVariables false
namespace Go.Proofs.Ytocmlaloafmfkaa.latticeOrderDone
open Go.MW Go.ChangeShapes Go.WideShapes Go.ChangeAt Go.RowKit
theorem own : ownKnob Try.prog.godebug = none := by kernel_rfl
theorem laidOut : laidOutB Try.prog = true := by kernel_rfl



set_option maxRecDepth 100000 in
theorem lifted (os : Os) (started : os.Started) (H : Type) (enc : TypeId × Value → H) :
    ReturnsInHanded {} Try.checked os 8 .any (Rows.latticeOrderSpec.pre6 enc Try.prog Try.f8 Rows.latticeOrderRow.domain false) (Rows.latticeOrderSpec.post enc Try.prog Try.f8 false true false false) := by
  refine returnsInHanded_of_change (C := Try.checked) own started (by kernel_rfl) Try.func8
    (ChangeSpec.witness6 (enc := enc) (C := Try.checked) false ⟨#[], #[.slice none 0 0, .slice none 0 0], []⟩ 8 (by kernel_rfl) (by kernel_rfl) (by kernel_rfl) (by kernel_rfl)) ?_
  intro W base args ds gs before hval0 hW hcnd _
  have hval : ∀ (j : Nat) t v, Try.f8.params[j]? = some t → args[j]? = some v → Value.okWide Try.prog W .any base t v := hval0
  have hW' := hW
  obtain ⟨p, q, hA0, hV, rfl, hfz, hnd⟩ := hW
  have hA : DataW.TrodAll enc Try.prog W 0 (fun _ => true) true Try.f8.params.toList args.toList ds p := hA0
  rw [Try.params8] at hA hval
  obtain ⟨v0, vs0, d0, ds0, p0, q0, hargs, rfl, rfl, h0, r0⟩ := trodAll_cons hA
  obtain ⟨v1, vs1, d1, ds1, p1, q1, rfl, rfl, rfl, h1, r1⟩ := trodAll_cons r0
  obtain ⟨rfl, rfl, rfl⟩ := trodAll_nil r1
  obtain rfl : args = #[v0, v1] := by cases args; simp_all
  obtain ⟨rfl, rfl⟩ := trodVars_none hV
  have k0 := h0
  have lt0 : ∀ x ∈ p0, x.block < W.heap.size := by obtain ⟨m, hm⟩ := k0; exact DataW.trod_lt m _ _ _ hm
  have k1 := h1
  have lt1 : ∀ x ∈ p1, x.block < W.heap.size := by obtain ⟨m, hm⟩ := k1; exact DataW.trod_lt m _ _ _ hm
  obtain ⟨n0, g0, p0a, c0a, b0a, o0a, rfl, hm0, hc0, hp0, hx0, _⟩ := open_slice_z (s := 2) Try.underlying52 (by kernel_rfl) (by decide) (el_array Try.underlying59 (by kernel_rfl) Try.underlying3 (by kernel_rfl)) (hval 0 52 v0 rfl rfl) h0
  obtain ⟨T1, hT1⟩ := open_pairsS Try.underlying71 Try.underlying76 (by kernel_rfl) Try.underlying9 (by kernel_rfl) (hval 1 71 v1 rfl rfl) h1
  clear hA0 hval0
  refine (show Calls Try.prog 8 _ W (PostV W (.bool true)) from lorder_spec _ _ _ _ (Has.nil W) (RdP.of hp0 hx0) hT1).mono fun e W' h => ?_
  obtain ⟨he, bel⟩ := h.law
  subst he
  exact ⟨_, rfl, _, _, _, [], _, [], hW', trodAll_mk1 (shut_bool Try.underlying4 _), (trodAll_cons_mk (Below.trod laidOut (by kernel_rfl) (of_decide_eq_true (by kernel_rfl)) k0 bel lt0) (trodAll_cons_mk (Below.trod laidOut (by kernel_rfl) (of_decide_eq_true (by kernel_rfl)) k1 bel lt1) trodAll_mk0)), rfl, bel.frame _, fun h => by cases h⟩

theorem over : Rows.latticeOrderRow.holds Try.pinned (OpenSpec.ofChange Rows.latticeOrderSpec) :=
  OpenClaim.holds_of_wide 8 Try.f8 rfl rfl rfl rfl rfl rfl rfl ⟨rfl, rfl, rfl, rfl, rfl⟩ rfl rfl rfl rfl rfl (by kernel_rfl) Try.func8 (by kernel_rfl)
    (of_decide_eq_true (by kernel_rfl)) (by unfold Func.isWrapper; first | (rw [if_pos (by decide +kernel)]; kernel_rfl) | (rw [if_neg (by decide +kernel)]; exact ⟨rfl, rfl⟩))
    (fun os started H enc _ => lifted os started H enc)

theorem proved : Rows.LatticeOrderSaid := over
#print axioms proved
end Go.Proofs.Ytocmlaloafmfkaa.latticeOrderDone
