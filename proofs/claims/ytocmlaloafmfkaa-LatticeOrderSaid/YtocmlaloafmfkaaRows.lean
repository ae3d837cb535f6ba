/-
  No cell of these rows narrows 'for every input' (looked for: loops, veiled, ifaces, maps, wideKeys, modest, calm, conditions, laid).
  DERIVED. THE GIVEN ROWS OF THIS SEAT. 6 by the template 'for every input the law returns true; each argument reads behind the call as it read before'; 0 by the template 'total and deterministic' (their statements: YtocmlaloafmfkaaTotals.lean).
  GIVEN WITH THE SEED: the statements are not yours to turn. If you find one false, say at which input.
  Laid BY PROGRAM, IN A SANDBOX (cutbox-rows.mjs): the forced cells as the released guide's own fill.sh prints them over the translation d6e452927cd77008… (all of the seat's roots in one cut). By AI agents, Wed Nov 11 2026. No macro, syntax, notation, axiom, sorry.
-/
import Derived.Test.YtocmlaloafmfkaaChecked
import GoSem.Claim
import GoSem.ClaimJoined
import GoSem.ClaimMapViews
import Derived.JoinedTies
import Derived.KernelRfl
namespace Go.Proofs.Ytocmlaloafmfkaa
/- THE CELL 'sum', in the pinned program and in every row, IS THE sha256 OF THE DUMP (.gsa) THAT YtocmlaloafmfkaaProg.lean LOADS. Nothing in Lean hashes anything: it is a label: what it is worth is what the hold of that sum in a sandbox is worth. -/
noncomputable def Try.pinned : Pinned := { name := "ytocmlaloafmfkaa", sum := "d6e452927cd77008af9a66225b044833c33738ec879523aa55fbc707103f0a36", checked := Try.checked }
namespace Rows
def none {H : Type} : Left H := { results := [], args := [] }

/-- 'bastillelaw23.MailOrder': WHATEVER THE INPUT: true; the input reads as it did. -/
def mailOrderSpec : ChangeSpec := { name := "mailOrder", fn := fun _ => fun
  | [d1, d2] => { results := [.lit (.bool true)], args := [d1, d2] }
  | _ => none }
def mailOrderRow : OpenClaim := { program := "ytocmlaloafmfkaa", sum := "d6e452927cd77008af9a66225b044833c33738ec879523aa55fbc707103f0a36", func := "bastille/bastillelaw23.MailOrder", spec := "mailOrder", apart := false }
def MailOrderSaid : Prop := mailOrderRow.holds Try.pinned (OpenSpec.ofChange mailOrderSpec)

/-- ITS FALSE NEIGHBOUR: 'it returns false'. Refute it at one input. -/
def mailOrderWrong : ChangeSpec := { name := "mailOrder", fn := fun _ => fun
  | [d1, d2] => { results := [.lit (.bool false)], args := [d1, d2] }
  | _ => none }
def MailOrderWrongFalsely : Prop := mailOrderRow.holds Try.pinned (OpenSpec.ofChange mailOrderWrong)

/-- 'bastillelaw23.MailDoes': WHATEVER THE INPUT: true; the input reads as it did. -/
def mailDoesSpec : ChangeSpec := { name := "mailDoes", fn := fun _ => fun
  | [d1, d2] => { results := [.lit (.bool true)], args := [d1, d2] }
  | _ => none }
def mailDoesRow : OpenClaim := { program := "ytocmlaloafmfkaa", sum := "d6e452927cd77008af9a66225b044833c33738ec879523aa55fbc707103f0a36", func := "bastille/bastillelaw23.MailDoes", spec := "mailDoes", apart := false }
def MailDoesSaid : Prop := mailDoesRow.holds Try.pinned (OpenSpec.ofChange mailDoesSpec)

/-- ITS FALSE NEIGHBOUR: 'it returns false'. Refute it at one input. -/
def mailDoesWrong : ChangeSpec := { name := "mailDoes", fn := fun _ => fun
  | [d1, d2] => { results := [.lit (.bool false)], args := [d1, d2] }
  | _ => none }
def MailDoesWrongFalsely : Prop := mailDoesRow.holds Try.pinned (OpenSpec.ofChange mailDoesWrong)

/-- 'bastillelaw26.LatticePath': WHATEVER THE INPUT: true; the input reads as it did. -/
def latticePathSpec : ChangeSpec := { name := "latticePath", fn := fun _ => fun
  | [d1, d2, d3] => { results := [.lit (.bool true)], args := [d1, d2, d3] }
  | _ => none }
def latticePathRow : OpenClaim := { program := "ytocmlaloafmfkaa", sum := "d6e452927cd77008af9a66225b044833c33738ec879523aa55fbc707103f0a36", func := "bastille/bastillelaw26.LatticePath", spec := "latticePath", apart := false }
def LatticePathSaid : Prop := latticePathRow.holds Try.pinned (OpenSpec.ofChange latticePathSpec)

/-- ITS FALSE NEIGHBOUR: 'it returns false'. Refute it at one input. -/
def latticePathWrong : ChangeSpec := { name := "latticePath", fn := fun _ => fun
  | [d1, d2, d3] => { results := [.lit (.bool false)], args := [d1, d2, d3] }
  | _ => none }
def LatticePathWrongFalsely : Prop := latticePathRow.holds Try.pinned (OpenSpec.ofChange latticePathWrong)

/-- 'bastillelaw26.LatticeMore': WHATEVER THE INPUT: true; the input reads as it did. -/
def latticeMoreSpec : ChangeSpec := { name := "latticeMore", fn := fun _ => fun
  | [d1, d2, d3] => { results := [.lit (.bool true)], args := [d1, d2, d3] }
  | _ => none }
def latticeMoreRow : OpenClaim := { program := "ytocmlaloafmfkaa", sum := "d6e452927cd77008af9a66225b044833c33738ec879523aa55fbc707103f0a36", func := "bastille/bastillelaw26.LatticeMore", spec := "latticeMore", apart := false }
def LatticeMoreSaid : Prop := latticeMoreRow.holds Try.pinned (OpenSpec.ofChange latticeMoreSpec)

/-- ITS FALSE NEIGHBOUR: 'it returns false'. Refute it at one input. -/
def latticeMoreWrong : ChangeSpec := { name := "latticeMore", fn := fun _ => fun
  | [d1, d2, d3] => { results := [.lit (.bool false)], args := [d1, d2, d3] }
  | _ => none }
def LatticeMoreWrongFalsely : Prop := latticeMoreRow.holds Try.pinned (OpenSpec.ofChange latticeMoreWrong)

/-- 'bastillelaw26.LatticeReach': WHATEVER THE INPUT: true; the input reads as it did. -/
def latticeReachSpec : ChangeSpec := { name := "latticeReach", fn := fun _ => fun
  | [d1, d2, d3] => { results := [.lit (.bool true)], args := [d1, d2, d3] }
  | _ => none }
def latticeReachRow : OpenClaim := { program := "ytocmlaloafmfkaa", sum := "d6e452927cd77008af9a66225b044833c33738ec879523aa55fbc707103f0a36", func := "bastille/bastillelaw26.LatticeReach", spec := "latticeReach", apart := false }
def LatticeReachSaid : Prop := latticeReachRow.holds Try.pinned (OpenSpec.ofChange latticeReachSpec)

/-- ITS FALSE NEIGHBOUR: 'it returns false'. Refute it at one input. -/
def latticeReachWrong : ChangeSpec := { name := "latticeReach", fn := fun _ => fun
  | [d1, d2, d3] => { results := [.lit (.bool false)], args := [d1, d2, d3] }
  | _ => none }
def LatticeReachWrongFalsely : Prop := latticeReachRow.holds Try.pinned (OpenSpec.ofChange latticeReachWrong)

/-- 'bastillelaw26.LatticeOrder': WHATEVER THE INPUT: true; the input reads as it did. -/
def latticeOrderSpec : ChangeSpec := { name := "latticeOrder", fn := fun _ => fun
  | [d1, d2] => { results := [.lit (.bool true)], args := [d1, d2] }
  | _ => none }
def latticeOrderRow : OpenClaim := { program := "ytocmlaloafmfkaa", sum := "d6e452927cd77008af9a66225b044833c33738ec879523aa55fbc707103f0a36", func := "bastille/bastillelaw26.LatticeOrder", spec := "latticeOrder", apart := false }
def LatticeOrderSaid : Prop := latticeOrderRow.holds Try.pinned (OpenSpec.ofChange latticeOrderSpec)

/-- ITS FALSE NEIGHBOUR: 'it returns false'. Refute it at one input. -/
def latticeOrderWrong : ChangeSpec := { name := "latticeOrder", fn := fun _ => fun
  | [d1, d2] => { results := [.lit (.bool false)], args := [d1, d2] }
  | _ => none }
def LatticeOrderWrongFalsely : Prop := latticeOrderRow.holds Try.pinned (OpenSpec.ofChange latticeOrderWrong)

/- THE SECOND FORM. 'bulk': how many values and letters a reading holds, each counted each time it is reached (what is shared counts as often as it is met; a slice's spare places count too). A statement '..UptoSaid' is the law's where the arguments, and the package variables that the reading takes, are together of bulk at most 1048576: NARROWER than '..Said'. Prove '..Said' where nothing that the law and all that it calls make is longer than what came in: it says more and counts as full. Else prove '..UptoSaid'. A law counts once. -/
mutual
def uptoBulk {H : Type} : DataW H → Nat
  | .lit (.string bytes) => bytes.length + 1
  | .lit _ => 1
  | .nil => 1
  | .ptr d => uptoBulk d + 1
  | .slice elems spare => uptoBulkAll elems + uptoBulkAll spare + 1
  | .agg parts => uptoBulkAll parts + 1
  | .iface _ d => uptoBulk d + 1
  | .map entries => uptoBulkEntries entries + 1
  | .held _ => 1
def uptoBulkAll {H : Type} : List (DataW H) → Nat
  | [] => 0
  | d :: r => uptoBulk d + uptoBulkAll r
def uptoBulkEntries {H : Type} : List (Lit × DataW H) → Nat
  | [] => 0
  | x :: r => uptoBulkEntry x + uptoBulkEntries r
def uptoBulkEntry {H : Type} : Lit × DataW H → Nat
  | (.string bytes, d) => bytes.length + uptoBulk d + 1
  | (_, d) => uptoBulk d + 1
 end
def uptoSmall : (H : Type) → List (DataW H) → Bool := fun _ ds => decide (uptoBulkAll ds ≤ 1048576)
def OpenSpec.upto (s : _root_.Go.ChangeSpec) : _root_.Go.OpenSpec := { _root_.Go.OpenSpec.ofChange s with cond := some uptoSmall }

/-- 'bastillelaw23.MailOrder', WHERE WHAT IT READS IS OF BULK AT MOST 1048576: true; the input reads as it did. -/
def mailOrderUptoRow : OpenClaim := { program := "ytocmlaloafmfkaa", sum := "d6e452927cd77008af9a66225b044833c33738ec879523aa55fbc707103f0a36", func := "bastille/bastillelaw23.MailOrder", spec := "mailOrder", apart := false, narrowed := true }
def MailOrderUptoSaid : Prop := mailOrderUptoRow.holds Try.pinned (OpenSpec.upto mailOrderSpec)

/-- 'bastillelaw23.MailDoes', WHERE WHAT IT READS IS OF BULK AT MOST 1048576: true; the input reads as it did. -/
def mailDoesUptoRow : OpenClaim := { program := "ytocmlaloafmfkaa", sum := "d6e452927cd77008af9a66225b044833c33738ec879523aa55fbc707103f0a36", func := "bastille/bastillelaw23.MailDoes", spec := "mailDoes", apart := false, narrowed := true }
def MailDoesUptoSaid : Prop := mailDoesUptoRow.holds Try.pinned (OpenSpec.upto mailDoesSpec)

/-- 'bastillelaw26.LatticePath', WHERE WHAT IT READS IS OF BULK AT MOST 1048576: true; the input reads as it did. -/
def latticePathUptoRow : OpenClaim := { program := "ytocmlaloafmfkaa", sum := "d6e452927cd77008af9a66225b044833c33738ec879523aa55fbc707103f0a36", func := "bastille/bastillelaw26.LatticePath", spec := "latticePath", apart := false, narrowed := true }
def LatticePathUptoSaid : Prop := latticePathUptoRow.holds Try.pinned (OpenSpec.upto latticePathSpec)

/-- 'bastillelaw26.LatticeMore', WHERE WHAT IT READS IS OF BULK AT MOST 1048576: true; the input reads as it did. -/
def latticeMoreUptoRow : OpenClaim := { program := "ytocmlaloafmfkaa", sum := "d6e452927cd77008af9a66225b044833c33738ec879523aa55fbc707103f0a36", func := "bastille/bastillelaw26.LatticeMore", spec := "latticeMore", apart := false, narrowed := true }
def LatticeMoreUptoSaid : Prop := latticeMoreUptoRow.holds Try.pinned (OpenSpec.upto latticeMoreSpec)

/-- 'bastillelaw26.LatticeReach', WHERE WHAT IT READS IS OF BULK AT MOST 1048576: true; the input reads as it did. -/
def latticeReachUptoRow : OpenClaim := { program := "ytocmlaloafmfkaa", sum := "d6e452927cd77008af9a66225b044833c33738ec879523aa55fbc707103f0a36", func := "bastille/bastillelaw26.LatticeReach", spec := "latticeReach", apart := false, narrowed := true }
def LatticeReachUptoSaid : Prop := latticeReachUptoRow.holds Try.pinned (OpenSpec.upto latticeReachSpec)

/-- 'bastillelaw26.LatticeOrder', WHERE WHAT IT READS IS OF BULK AT MOST 1048576: true; the input reads as it did. -/
def latticeOrderUptoRow : OpenClaim := { program := "ytocmlaloafmfkaa", sum := "d6e452927cd77008af9a66225b044833c33738ec879523aa55fbc707103f0a36", func := "bastille/bastillelaw26.LatticeOrder", spec := "latticeOrder", apart := false, narrowed := true }
def LatticeOrderUptoSaid : Prop := latticeOrderUptoRow.holds Try.pinned (OpenSpec.upto latticeOrderSpec)

end Rows
end Go.Proofs.Ytocmlaloafmfkaa
