/- Literals of slices. Conditions: none. -/
import Derived.Test.YtpmldkhgdpchjaaM7
namespace Go.MW
section
variable {P : Program} {w0 : World} {m : Mem} {ρ : Operand → Value} {dst : Option Tmp} {ty : TypeId} {pos : String} {after : Array Edge} {gd : Option (Nat × Bool)} {T : TypeId}
theorem rel_lit {n : Nat} {e : TypeId} {z : Value} {c : Array Value} {parts : Array (Nat × Operand)} (hu : P.underlying T = some (.slice e)) (hz : ∀ w, (zeroValue e).run P w = .ok z w) (hs : ∀ w, (sizeOf e).run P w = .ok 1 w) (hn : 0 < n) (hb : n ≤ 16777216)
    (hf : Instr.fill (fun i => some (i, 1)) ((Array.range n).map (z.cells[· % z.cells.size]!)) (parts.map fun p => (p.1, ρ p.2)).toList = some c) :
    Rel P w0 m ρ ⟨dst, .buildSlice T n parts, ty, pos, after, gd⟩ (IsSl n c e) := by
  intro w _
  have h : (execOp ρ ⟨dst, .buildSlice T n parts, ty, pos, after, gd⟩).run P w = .ok (.value (.slice (some ⟨w.heap.size, 0, none⟩) n n)) (w.alloc (.cells c e (0, 0))) := by
    have h0 : ¬ n = 0 := by omega
    have h1 : ¬ 16777216 < n := by omega
    simp only [execOp, Instr.buildSlice]
    simp [run_underlying hu, hs, hz, h0, h1, newRow]
    simp at hf
    simp [hf]
  unfold Runs
  rw [h]
  exact ⟨_, ⟨_, rfl, rfl⟩, Has.alloc w _⟩
end
end Go.MW
