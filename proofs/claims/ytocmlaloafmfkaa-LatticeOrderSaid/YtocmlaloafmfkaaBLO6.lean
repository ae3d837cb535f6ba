/- What the claim of this folder needs of its texts, put together by a program of this claim. Conditions: none. -/
import Derived.Test.YtocmlaloafmfkaaBLO5
set_option linter.unusedSectionVars false
set_option linter.unusedSimpArgs false
set_option linter.unusedVariables false
set_option linter.unusedVariables false
namespace Go.Proofs.Ytocmlaloafmfkaa
open Go.MW
theorem hflat0 {w0 w : World} {m : Mem} {V : Sel} (hw : Has w0 (m ++ flat [] V) w) : Has w0 m w := by simpa only [flat_nil, List.append_nil] using hw
theorem ints_same (l : List Int) (va vb : Value) (hn : l.length ≤ 1000000) (w : World) (ha : RdZ w l va) (hb : RdZ w l vb) : Calls Try.prog 21 #[va, vb] w (PostV w (.bool true)) := by
  have := ints_spec l l va vb hn w ha hb
  rwa [decide_eq_true rfl] at this
end Go.Proofs.Ytocmlaloafmfkaa
