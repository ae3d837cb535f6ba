/- Law functions: what is decided, what a region's own calls made, and how a row of a law is proved. Conditions: none. -/
import Derived.Test.YtpmldkhgdpchjaaM4
namespace Go.MW
open Go.RowKit

section
variable {P : Program} {w0 : World} {m : Mem} {ρ : Operand → Value} {o : Oper}
theorem Det.bv {b : Bool} (b' : Bool) (h : Det P w0 m ρ o (.bool b)) (hb : b = b') : Det P w0 m ρ o (.bool b') := hb ▸ h
end
section
variable {P : Program} {w0 : World} {K : List Value → Mem → Prop} {E : Exit → List Value → Mem → Prop} {L : List Value} {m : Mem} {ops : Array Oper} {rest : List Oper} {o : Oper}
/-! guarded operations of a region that keeps its order -/
theorem WL_chgG {R : Value → Mem → Prop} (hg : Region.wanted o (yielded ops L.toArray) = true) (h : Chg P w0 m (ev L) o R) (k : ∀ v m', R v m' → WL P w0 ops K E rest (put L o.dst v) m') :
    WL P w0 ops K E (o :: rest) L m := by
  intro w hw
  unfold wpList
  rw [if_pos (by simpa [fr] using hg)]
  refine .inl (Runs.upon (h w hw) ?_)
  rintro v w' ⟨m', hr, hh⟩
  exact k v m' hr w' hh
theorem WL_relG {R : Value → Mem → Prop} (hg : Region.wanted o (yielded ops L.toArray) = true) (h : Rel P w0 m (ev L) o R) (k : ∀ v mi, R v mi → WL P w0 ops K E rest (put L o.dst v) (m ++ mi)) :
    WL P w0 ops K E (o :: rest) L m :=
  WL_chgG hg h.chg fun v _ ⟨mi, hm, hr⟩ => hm ▸ k v mi hr
theorem WL_detG {v : Value} (hg : Region.wanted o (yielded ops L.toArray) = true) (h : Det P w0 m (ev L) o v) (k : WL P w0 ops K E rest (put L o.dst v) m) : WL P w0 ops K E (o :: rest) L m := by
  refine WL_relG hg h.rel ?_
  rintro v' mi ⟨rfl, rfl⟩
  rwa [List.append_nil]
theorem WL_skipG (hg : Region.wanted o (yielded ops L.toArray) = false) (k : WL P w0 ops K E rest (put L o.dst undef) m) : WL P w0 ops K E (o :: rest) L m := by
  intro w hw
  unfold wpList
  rw [if_neg (by simpa [fr] using hg)]
  rw [put_fr]; exact k w hw
end
theorem eqA_same {n : Nat} {f g : Nat → Nat} (h : ∀ i, i < n → f i = g i) : eqA n f g = true := eqA_iff.2 h
theorem neqA_same {n : Nat} {f g : Nat → Nat} (h : ∀ i, i < n → f i = g i) : (!eqA n f g) = false := by rw [eqA_iff.2 h]; rfl
theorem flat_mem {m : Mem} {V : Sel} {j : Nat} {js : List Nat} (h : j ∈ js) : (V j).2.Sublist (m ++ flat js V) := by
  refine List.Sublist.trans ?_ (List.sublist_append_right _ _)
  induction js with
  | nil => cases h
  | cons a js ih =>
    rw [flat_cons]
    rcases List.mem_cons.1 h with rfl | h
    · exact List.sublist_append_left _ _
    · exact (ih h).trans (List.sublist_append_right _ _)
theorem Rd.slNew {w0 w : World} {mm mi : Mem} (hw : Has w0 mm w) (hs : mi.Sublist mm) {k : IntKind} {n : Nat} {f : Nat → Nat} {t : TypeId} {v : Value} (h : IsSl n (Go.MW.arr k n f) t v mi) : Rd w k n f v := by
  obtain ⟨b, rfl, rfl⟩ := h
  exact Rd.arr (hw.sub hs) 0 rfl (Nat.le_refl _)
theorem Rd.rowNew {w0 w : World} {mm mi : Mem} (hw : Has w0 mm w) (hs : mi.Sublist mm) {k : IntKind} {n : Nat} {f : Nat → Nat} {t : TypeId} {v : Value} (h : ∃ e, RowN k t n f v e ∧ mi = [e]) : Rd w k n f v := by
  obtain ⟨e, h, rfl⟩ := h
  exact Rd.row (hw.sub hs) 0 rfl h
end Go.MW
