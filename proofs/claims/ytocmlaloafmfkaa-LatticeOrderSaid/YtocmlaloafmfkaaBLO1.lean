/- What the claim of this folder needs of its texts, put together by a program of this claim. Conditions: none. -/
import Derived.Conc.LoneSelect
import Derived.Conc.SmallLaws
import Derived.LaidEql
import Derived.Test.YtocmlaloafmfkaaBLO0
set_option linter.unusedSectionVars false
set_option linter.unusedSimpArgs false
set_option linter.unusedVariables false
namespace Go.MW
open Go.RowKit Go.Conc

theorem range_pick (is : List Nat) (hn : is.Nodup) (n : Nat) (hlt : ∀ i ∈ is, i < n) : (is ++ (List.range n).filter fun j => !is.contains j).Perm (List.range n) := by
  refine (List.perm_ext_iff_of_nodup ?_ List.nodup_range).2 fun a => ?_
  · refine List.nodup_append.2 ⟨hn, (List.filter_sublist (l := List.range n)).nodup List.nodup_range, ?_⟩
    intro x hx y hy e
    subst e
    simp at hy
    exact hy.2 hx
  · simp only [List.mem_append, List.mem_filter, List.mem_range]
    constructor
    · rintro (h | h)
      · exact hlt a h
      · exact h.1
    · intro h
      by_cases ha : a ∈ is
      · exact .inl ha
      · exact .inr ⟨h, by simpa using ha⟩
theorem perm_mid (m mi : Mem) (k : Nat) : (m.take k ++ (mi ++ m.drop k)).Perm (m ++ mi) := by
  have h : m ++ mi = m.take k ++ (m.drop k ++ mi) := by rw [← List.append_assoc, List.take_append_drop]
  rw [h]
  exact List.Perm.append_left _ List.perm_append_comm

section
variable {P : Program} {w0 : World} {K : List Value → Mem → Prop} {E : Exit → List Value → Mem → Prop} {L : List Value} {m : Mem} {ρ : Operand → Value} {ops : Array Oper} {rest : List Oper} {o : Oper}
/-- What is new is laid at place k of the list. -/
theorem WL_relAt (k : Nat) {R : Value → Mem → Prop} (hg : o.guard = none) (h : Rel P w0 m (ev L) o R) (kk : ∀ v mi, R v mi → WL P w0 ops K E rest (put L o.dst v) (m.take k ++ (mi ++ m.drop k))) :
    WL P w0 ops K E (o :: rest) L m :=
  WL_rel hg h fun v mi hr w hw => kk v mi hr w (hw.perm (perm_mid m mi k))
theorem WC.addNoneAt {c : Code} (k : Nat) (x : Obj) (h : WC P w0 c K E L (m.take k ++ ([(none, x)] ++ m.drop k))) : WC P w0 c K E L m := WC.addNone x fun w hw => h w (hw.perm (perm_mid m [(none, x)] k))
end

section
variable {P : Program} {w0 : World} {K : List Value → Mem → Prop} {E : Exit → List Value → Mem → Prop} {L : List Value} {m : Mem} {ρ : Operand → Value} {rest : List Oper} {o : Oper}
end
end Go.MW

namespace Go.MW
open Go.RowKit Go.Conc

section
variable {P : Program} {w0 : World} {K : List Value → Mem → Prop} {E : Exit → List Value → Mem → Prop} {L : List Value} {m : Mem} {ρ : Operand → Value} {rest : List Oper}
variable {dst : Option Tmp} {ty : TypeId} {pos : String} {after : Array Edge} {gd : Option (Nat × Bool)} {T T' : TypeId} {x y : Operand}

theorem det_nilCheck {a : Addr} (hx : ρ x = .pointer (some a)) : Det P w0 m ρ ⟨dst, .nilCheck x, ty, pos, after, gd⟩ (.pointer (some a)) := fun w _ => by simp [execOp, hx]
theorem run_eqI_PN (w : World) (d : Nat) {T e : TypeId} (p : Option Addr) (hu : P.underlying T = some (.pointer e)) : (Op.equalIn (d + 1) T (.pointer p) (.pointer none)).run P w = .ok p.isNone w := by
  rw [Op.equalIn]
  cases p <;> simp [run_underlying hu]
theorem det_neqPN {p : Option Addr} {e : TypeId} (hx : ρ x = .pointer p) (hy : ρ y = .pointer none) (hu : P.underlying T = some (.pointer e)) : Det P w0 m ρ ⟨dst, .binOp .neq T x y T', ty, pos, after, gd⟩ (.bool (!p.isNone)) := fun w _ => by
  simp [execOp, hx, hy, eqGuard_at_pointer, binOp, Op.equal, Op.maxDepth, run_eqI_PN w 9999 p hu]
theorem det_eqlStr {a b : ByteArray} (hx : ρ x = .string a) (hy : ρ y = .string b) : Det P w0 m ρ ⟨dst, .binOp .eql T x y T', ty, pos, after, gd⟩ (.bool (a.toList == b.toList)) := fun w _ => by
  simp [execOp, hx, hy, eqGuard_at_string, binOp, Op.stringOp]
theorem det_neqStr {a b : ByteArray} (hx : ρ x = .string a) (hy : ρ y = .string b) : Det P w0 m ρ ⟨dst, .binOp .neq T x y T', ty, pos, after, gd⟩ (.bool (!(a.toList == b.toList))) := fun w _ => by
  simp [execOp, hx, hy, eqGuard_at_string, binOp, Op.stringOp]

/-- A struct that is built of its fields. -/
theorem det_buildS {fs : Array Field} {z : Value} {c : Array Value} {parts : Array (Nat × Operand)} {pl : Array (Nat × Nat)} (hz : ∀ w, (zeroValue T).run P w = .ok z w) (hu : P.underlying T = some (.struct fs)) (hp : ∀ w, (fs.mapM fun f => do pure (f.offset, ← sizeOf f.type) : Sem (Array (Nat × Nat))).run P w = .ok pl w)
    (hf : Instr.fill (pl[·]?) z.cells (parts.map fun p => (p.1, ρ p.2)).toList = some c) : Det P w0 m ρ ⟨dst, .build T parts, ty, pos, after, gd⟩ (.agg c) := fun w _ => by
  simp only [execOp, Instr.build]
  simp [hz, run_underlying hu]
  simp at hp
  simp at hf
  simp [hp, hf]

theorem det_loadFB {b o : Nat} {c : Array Value} {t : TypeId} {fz : Nat × Nat} {v : Value} (hg : ∀ w, (isAgg T).run P w = .ok false w) (hx : ρ x = .pointer (some ⟨b, o, none⟩)) (hb : w0.heap[b]? = some (.cells c t fz)) (hc : c[o]? = some v) : Det P w0 m ρ ⟨dst, .load T x, ty, pos, after, gd⟩ v :=
  det_loadF hg hx (by simp [World.cell?, hb, hc])
end
end Go.MW
