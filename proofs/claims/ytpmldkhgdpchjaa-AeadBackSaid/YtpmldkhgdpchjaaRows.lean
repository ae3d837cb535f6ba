/-
  No cell of these rows narrows 'for every input' (looked for: loops, veiled, ifaces, maps, wideKeys, modest, calm, conditions, laid).
  DERIVED. THE GIVEN ROWS OF THIS SEAT. 12 by the template 'for every input the law returns true; each argument reads behind the call as it read before'; 0 by the template 'total and deterministic' (their statements: YtpmldkhgdpchjaaTotals.lean).
  GIVEN WITH THE SEED: the statements are not yours to turn. If you find one false, say at which input.
  Laid BY PROGRAM, IN A SANDBOX (cutbox-rows.mjs): the forced cells as the released guide's own fill.sh prints them over the translation 4785b2874af416d1… (all of the seat's roots in one cut). By AI agents, Wed Nov 11 2026. No macro, syntax, notation, axiom, sorry.
-/
import Derived.Test.YtpmldkhgdpchjaaChecked
import GoSem.Claim
import GoSem.ClaimJoined
import GoSem.ClaimMapViews
import Derived.JoinedTies
import Derived.KernelRfl
namespace Go.Proofs.Ytpmldkhgdpchjaa
/- THE CELL 'sum', in the pinned program and in every row, IS THE sha256 OF THE DUMP (.gsa) THAT YtpmldkhgdpchjaaProg.lean LOADS. Nothing in Lean hashes anything: it is a label: what it is worth is what the hold of that sum in a sandbox is worth. -/
noncomputable def Try.pinned : Pinned := { name := "ytpmldkhgdpchjaa", sum := "4785b2874af416d1c529acffd3dd029e4c148d576565f4a5e892272d2d88f5be", checked := Try.checked }
namespace Rows
def none {H : Type} : Left H := { results := [], args := [] }

/-- 'bastillelaw09.ChachaBlocks': WHATEVER THE INPUT: true; the input reads as it did. -/
def chachaBlocksSpec : ChangeSpec := { name := "chachaBlocks", fn := fun _ => fun
  | [d1, d2] => { results := [.lit (.bool true)], args := [d1, d2] }
  | _ => none }
def chachaBlocksRow : OpenClaim := { program := "ytpmldkhgdpchjaa", sum := "4785b2874af416d1c529acffd3dd029e4c148d576565f4a5e892272d2d88f5be", func := "bastille/bastillelaw09.ChachaBlocks", spec := "chachaBlocks", unfollowed := true, recurses := true, apart := false }
def ChachaBlocksSaid : Prop := chachaBlocksRow.holds Try.pinned (OpenSpec.ofChange chachaBlocksSpec)

/-- ITS FALSE NEIGHBOUR: 'it returns false'. Refute it at one input. -/
def chachaBlocksWrong : ChangeSpec := { name := "chachaBlocks", fn := fun _ => fun
  | [d1, d2] => { results := [.lit (.bool false)], args := [d1, d2] }
  | _ => none }
def ChachaBlocksWrongFalsely : Prop := chachaBlocksRow.holds Try.pinned (OpenSpec.ofChange chachaBlocksWrong)

/-- 'bastillelaw06.ScalarTakes': WHATEVER THE INPUT: true; the input reads as it did. -/
def scalarTakesSpec : ChangeSpec := { name := "scalarTakes", fn := fun _ => fun
  | [d1, d2] => { results := [.lit (.bool true)], args := [d1, d2] }
  | _ => none }
def scalarTakesRow : OpenClaim := { program := "ytpmldkhgdpchjaa", sum := "4785b2874af416d1c529acffd3dd029e4c148d576565f4a5e892272d2d88f5be", func := "bastille/bastillelaw06.ScalarTakes", spec := "scalarTakes", apart := false }
def ScalarTakesSaid : Prop := scalarTakesRow.holds Try.pinned (OpenSpec.ofChange scalarTakesSpec)

/-- ITS FALSE NEIGHBOUR: 'it returns false'. Refute it at one input. -/
def scalarTakesWrong : ChangeSpec := { name := "scalarTakes", fn := fun _ => fun
  | [d1, d2] => { results := [.lit (.bool false)], args := [d1, d2] }
  | _ => none }
def ScalarTakesWrongFalsely : Prop := scalarTakesRow.holds Try.pinned (OpenSpec.ofChange scalarTakesWrong)

/-- 'bastillelaw11.AeadOpens': WHATEVER THE INPUT: true; the input reads as it did. -/
def aeadOpensSpec : ChangeSpec := { name := "aeadOpens", fn := fun _ => fun
  | [d1, d2] => { results := [.lit (.bool true)], args := [d1, d2] }
  | _ => none }
def aeadOpensRow : OpenClaim := { program := "ytpmldkhgdpchjaa", sum := "4785b2874af416d1c529acffd3dd029e4c148d576565f4a5e892272d2d88f5be", func := "bastille/bastillelaw11.AeadOpens", spec := "aeadOpens", unfollowed := true, recurses := true, apart := false }
def AeadOpensSaid : Prop := aeadOpensRow.holds Try.pinned (OpenSpec.ofChange aeadOpensSpec)

/-- ITS FALSE NEIGHBOUR: 'it returns false'. Refute it at one input. -/
def aeadOpensWrong : ChangeSpec := { name := "aeadOpens", fn := fun _ => fun
  | [d1, d2] => { results := [.lit (.bool false)], args := [d1, d2] }
  | _ => none }
def AeadOpensWrongFalsely : Prop := aeadOpensRow.holds Try.pinned (OpenSpec.ofChange aeadOpensWrong)

/-- 'bastillelaw06.ScalarSums': WHATEVER THE INPUT: true; the input reads as it did. -/
def scalarSumsSpec : ChangeSpec := { name := "scalarSums", fn := fun _ => fun
  | [d1, d2, d3] => { results := [.lit (.bool true)], args := [d1, d2, d3] }
  | _ => none }
def scalarSumsRow : OpenClaim := { program := "ytpmldkhgdpchjaa", sum := "4785b2874af416d1c529acffd3dd029e4c148d576565f4a5e892272d2d88f5be", func := "bastille/bastillelaw06.ScalarSums", spec := "scalarSums", apart := false }
def ScalarSumsSaid : Prop := scalarSumsRow.holds Try.pinned (OpenSpec.ofChange scalarSumsSpec)

/-- ITS FALSE NEIGHBOUR: 'it returns false'. Refute it at one input. -/
def scalarSumsWrong : ChangeSpec := { name := "scalarSums", fn := fun _ => fun
  | [d1, d2, d3] => { results := [.lit (.bool false)], args := [d1, d2, d3] }
  | _ => none }
def ScalarSumsWrongFalsely : Prop := scalarSumsRow.holds Try.pinned (OpenSpec.ofChange scalarSumsWrong)

/-- 'bastillelaw11.AeadBack': WHATEVER THE INPUT: true; the input reads as it did. -/
def aeadBackSpec : ChangeSpec := { name := "aeadBack", fn := fun _ => fun
  | [d1, d2, d3] => { results := [.lit (.bool true)], args := [d1, d2, d3] }
  | _ => none }
def aeadBackRow : OpenClaim := { program := "ytpmldkhgdpchjaa", sum := "4785b2874af416d1c529acffd3dd029e4c148d576565f4a5e892272d2d88f5be", func := "bastille/bastillelaw11.AeadBack", spec := "aeadBack", unfollowed := true, recurses := true, apart := false }
def AeadBackSaid : Prop := aeadBackRow.holds Try.pinned (OpenSpec.ofChange aeadBackSpec)

/-- ITS FALSE NEIGHBOUR: 'it returns false'. Refute it at one input. -/
def aeadBackWrong : ChangeSpec := { name := "aeadBack", fn := fun _ => fun
  | [d1, d2, d3] => { results := [.lit (.bool false)], args := [d1, d2, d3] }
  | _ => none }
def AeadBackWrongFalsely : Prop := aeadBackRow.holds Try.pinned (OpenSpec.ofChange aeadBackWrong)

/-- 'bastillelaw06.ScalarLaws': WHATEVER THE INPUT: true; the input reads as it did. -/
def scalarLawsSpec : ChangeSpec := { name := "scalarLaws", fn := fun _ => fun
  | [d1, d2, d3] => { results := [.lit (.bool true)], args := [d1, d2, d3] }
  | _ => none }
def scalarLawsRow : OpenClaim := { program := "ytpmldkhgdpchjaa", sum := "4785b2874af416d1c529acffd3dd029e4c148d576565f4a5e892272d2d88f5be", func := "bastille/bastillelaw06.ScalarLaws", spec := "scalarLaws", unfollowed := true, recurses := true, apart := false }
def ScalarLawsSaid : Prop := scalarLawsRow.holds Try.pinned (OpenSpec.ofChange scalarLawsSpec)

/-- ITS FALSE NEIGHBOUR: 'it returns false'. Refute it at one input. -/
def scalarLawsWrong : ChangeSpec := { name := "scalarLaws", fn := fun _ => fun
  | [d1, d2, d3] => { results := [.lit (.bool false)], args := [d1, d2, d3] }
  | _ => none }
def ScalarLawsWrongFalsely : Prop := scalarLawsRow.holds Try.pinned (OpenSpec.ofChange scalarLawsWrong)

/-- 'bastillelaw09.ChachaHides': WHATEVER THE INPUT: true; the input reads as it did. -/
def chachaHidesSpec : ChangeSpec := { name := "chachaHides", fn := fun _ => fun
  | [d1, d2] => { results := [.lit (.bool true)], args := [d1, d2] }
  | _ => none }
def chachaHidesRow : OpenClaim := { program := "ytpmldkhgdpchjaa", sum := "4785b2874af416d1c529acffd3dd029e4c148d576565f4a5e892272d2d88f5be", func := "bastille/bastillelaw09.ChachaHides", spec := "chachaHides", unfollowed := true, recurses := true, apart := false }
def ChachaHidesSaid : Prop := chachaHidesRow.holds Try.pinned (OpenSpec.ofChange chachaHidesSpec)

/-- ITS FALSE NEIGHBOUR: 'it returns false'. Refute it at one input. -/
def chachaHidesWrong : ChangeSpec := { name := "chachaHides", fn := fun _ => fun
  | [d1, d2] => { results := [.lit (.bool false)], args := [d1, d2] }
  | _ => none }
def ChachaHidesWrongFalsely : Prop := chachaHidesRow.holds Try.pinned (OpenSpec.ofChange chachaHidesWrong)

/-- 'bastillelaw09.ChachaBack': WHATEVER THE INPUT: true; the input reads as it did. -/
def chachaBackSpec : ChangeSpec := { name := "chachaBack", fn := fun _ => fun
  | [d1, d2, d3] => { results := [.lit (.bool true)], args := [d1, d2, d3] }
  | _ => none }
def chachaBackRow : OpenClaim := { program := "ytpmldkhgdpchjaa", sum := "4785b2874af416d1c529acffd3dd029e4c148d576565f4a5e892272d2d88f5be", func := "bastille/bastillelaw09.ChachaBack", spec := "chachaBack", unfollowed := true, recurses := true, apart := false }
def ChachaBackSaid : Prop := chachaBackRow.holds Try.pinned (OpenSpec.ofChange chachaBackSpec)

/-- ITS FALSE NEIGHBOUR: 'it returns false'. Refute it at one input. -/
def chachaBackWrong : ChangeSpec := { name := "chachaBack", fn := fun _ => fun
  | [d1, d2, d3] => { results := [.lit (.bool false)], args := [d1, d2, d3] }
  | _ => none }
def ChachaBackWrongFalsely : Prop := chachaBackRow.holds Try.pinned (OpenSpec.ofChange chachaBackWrong)

/-- 'bastillelaw10.PolyTags': WHATEVER THE INPUT: true; the input reads as it did. -/
def polyTagsSpec : ChangeSpec := { name := "polyTags", fn := fun _ => fun
  | [d1, d2, d3] => { results := [.lit (.bool true)], args := [d1, d2, d3] }
  | _ => none }
def polyTagsRow : OpenClaim := { program := "ytpmldkhgdpchjaa", sum := "4785b2874af416d1c529acffd3dd029e4c148d576565f4a5e892272d2d88f5be", func := "bastille/bastillelaw10.PolyTags", spec := "polyTags", apart := false }
def PolyTagsSaid : Prop := polyTagsRow.holds Try.pinned (OpenSpec.ofChange polyTagsSpec)

/-- ITS FALSE NEIGHBOUR: 'it returns false'. Refute it at one input. -/
def polyTagsWrong : ChangeSpec := { name := "polyTags", fn := fun _ => fun
  | [d1, d2, d3] => { results := [.lit (.bool false)], args := [d1, d2, d3] }
  | _ => none }
def PolyTagsWrongFalsely : Prop := polyTagsRow.holds Try.pinned (OpenSpec.ofChange polyTagsWrong)

/-- 'bastillelaw10.PolyNumbers': WHATEVER THE INPUT: true; the input reads as it did. -/
def polyNumbersSpec : ChangeSpec := { name := "polyNumbers", fn := fun _ => fun
  | [d1, d2, d3] => { results := [.lit (.bool true)], args := [d1, d2, d3] }
  | _ => none }
def polyNumbersRow : OpenClaim := { program := "ytpmldkhgdpchjaa", sum := "4785b2874af416d1c529acffd3dd029e4c148d576565f4a5e892272d2d88f5be", func := "bastille/bastillelaw10.PolyNumbers", spec := "polyNumbers", apart := false }
def PolyNumbersSaid : Prop := polyNumbersRow.holds Try.pinned (OpenSpec.ofChange polyNumbersSpec)

/-- ITS FALSE NEIGHBOUR: 'it returns false'. Refute it at one input. -/
def polyNumbersWrong : ChangeSpec := { name := "polyNumbers", fn := fun _ => fun
  | [d1, d2, d3] => { results := [.lit (.bool false)], args := [d1, d2, d3] }
  | _ => none }
def PolyNumbersWrongFalsely : Prop := polyNumbersRow.holds Try.pinned (OpenSpec.ofChange polyNumbersWrong)

/-- 'bastillelaw10.PolyLaws': WHATEVER THE INPUT: true; the input reads as it did. -/
def polyLawsSpec : ChangeSpec := { name := "polyLaws", fn := fun _ => fun
  | [d1, d2, d3] => { results := [.lit (.bool true)], args := [d1, d2, d3] }
  | _ => none }
def polyLawsRow : OpenClaim := { program := "ytpmldkhgdpchjaa", sum := "4785b2874af416d1c529acffd3dd029e4c148d576565f4a5e892272d2d88f5be", func := "bastille/bastillelaw10.PolyLaws", spec := "polyLaws", apart := false }
def PolyLawsSaid : Prop := polyLawsRow.holds Try.pinned (OpenSpec.ofChange polyLawsSpec)

/-- ITS FALSE NEIGHBOUR: 'it returns false'. Refute it at one input. -/
def polyLawsWrong : ChangeSpec := { name := "polyLaws", fn := fun _ => fun
  | [d1, d2, d3] => { results := [.lit (.bool false)], args := [d1, d2, d3] }
  | _ => none }
def PolyLawsWrongFalsely : Prop := polyLawsRow.holds Try.pinned (OpenSpec.ofChange polyLawsWrong)

/-- 'bastillelaw11.AeadSeals': WHATEVER THE INPUT: true; the input reads as it did. -/
def aeadSealsSpec : ChangeSpec := { name := "aeadSeals", fn := fun _ => fun
  | [d1, d2, d3] => { results := [.lit (.bool true)], args := [d1, d2, d3] }
  | _ => none }
def aeadSealsRow : OpenClaim := { program := "ytpmldkhgdpchjaa", sum := "4785b2874af416d1c529acffd3dd029e4c148d576565f4a5e892272d2d88f5be", func := "bastille/bastillelaw11.AeadSeals", spec := "aeadSeals", unfollowed := true, recurses := true, apart := false }
def AeadSealsSaid : Prop := aeadSealsRow.holds Try.pinned (OpenSpec.ofChange aeadSealsSpec)

/-- ITS FALSE NEIGHBOUR: 'it returns false'. Refute it at one input. -/
def aeadSealsWrong : ChangeSpec := { name := "aeadSeals", fn := fun _ => fun
  | [d1, d2, d3] => { results := [.lit (.bool false)], args := [d1, d2, d3] }
  | _ => none }
def AeadSealsWrongFalsely : Prop := aeadSealsRow.holds Try.pinned (OpenSpec.ofChange aeadSealsWrong)

/- THE SECOND FORM. 'bulk': how many values and letters a reading holds, each counted each time it is reached (what is shared counts as often as it is met; a slice's spare places count too). A statement '..UptoSaid' is the law's where the arguments, and the package variables that the reading takes, are together of bulk at most 1048576: NARROWER than '..Said'. Prove '..Said' where nothing that the law and all that it calls make is longer than what came in: it says more and counts as full. Else prove '..UptoSaid'. A law counts once. -/
mutual
def uptoBulk {H : Type} : DataW H → Nat
  | .lit (.string bytes) => bytes.length + 1
  | .lit _ => 1
  | .nil => 1
  | .ptr d => uptoBulk d + 1
  | .slice elems spare => uptoBulkAll elems + uptoBulkAll spare + 1
  | .agg parts => uptoBulkAll parts + 1
  | .iface _ d => uptoBulk d + 1
  | .map entries => uptoBulkEntries entries + 1
  | .held _ => 1
def uptoBulkAll {H : Type} : List (DataW H) → Nat
  | [] => 0
  | d :: r => uptoBulk d + uptoBulkAll r
def uptoBulkEntries {H : Type} : List (Lit × DataW H) → Nat
  | [] => 0
  | x :: r => uptoBulkEntry x + uptoBulkEntries r
def uptoBulkEntry {H : Type} : Lit × DataW H → Nat
  | (.string bytes, d) => bytes.length + uptoBulk d + 1
  | (_, d) => uptoBulk d + 1
 end
def uptoSmall : (H : Type) → List (DataW H) → Bool := fun _ ds => decide (uptoBulkAll ds ≤ 1048576)
def OpenSpec.upto (s : _root_.Go.ChangeSpec) : _root_.Go.OpenSpec := { _root_.Go.OpenSpec.ofChange s with cond := some uptoSmall }

/-- 'bastillelaw09.ChachaBlocks', WHERE WHAT IT READS IS OF BULK AT MOST 1048576: true; the input reads as it did. -/
def chachaBlocksUptoRow : OpenClaim := { program := "ytpmldkhgdpchjaa", sum := "4785b2874af416d1c529acffd3dd029e4c148d576565f4a5e892272d2d88f5be", func := "bastille/bastillelaw09.ChachaBlocks", spec := "chachaBlocks", unfollowed := true, recurses := true, apart := false, narrowed := true }
def ChachaBlocksUptoSaid : Prop := chachaBlocksUptoRow.holds Try.pinned (OpenSpec.upto chachaBlocksSpec)

/-- 'bastillelaw06.ScalarTakes', WHERE WHAT IT READS IS OF BULK AT MOST 1048576: true; the input reads as it did. -/
def scalarTakesUptoRow : OpenClaim := { program := "ytpmldkhgdpchjaa", sum := "4785b2874af416d1c529acffd3dd029e4c148d576565f4a5e892272d2d88f5be", func := "bastille/bastillelaw06.ScalarTakes", spec := "scalarTakes", apart := false, narrowed := true }
def ScalarTakesUptoSaid : Prop := scalarTakesUptoRow.holds Try.pinned (OpenSpec.upto scalarTakesSpec)

/-- 'bastillelaw11.AeadOpens', WHERE WHAT IT READS IS OF BULK AT MOST 1048576: true; the input reads as it did. -/
def aeadOpensUptoRow : OpenClaim := { program := "ytpmldkhgdpchjaa", sum := "4785b2874af416d1c529acffd3dd029e4c148d576565f4a5e892272d2d88f5be", func := "bastille/bastillelaw11.AeadOpens", spec := "aeadOpens", unfollowed := true, recurses := true, apart := false, narrowed := true }
def AeadOpensUptoSaid : Prop := aeadOpensUptoRow.holds Try.pinned (OpenSpec.upto aeadOpensSpec)

/-- 'bastillelaw06.ScalarSums', WHERE WHAT IT READS IS OF BULK AT MOST 1048576: true; the input reads as it did. -/
def scalarSumsUptoRow : OpenClaim := { program := "ytpmldkhgdpchjaa", sum := "4785b2874af416d1c529acffd3dd029e4c148d576565f4a5e892272d2d88f5be", func := "bastille/bastillelaw06.ScalarSums", spec := "scalarSums", apart := false, narrowed := true }
def ScalarSumsUptoSaid : Prop := scalarSumsUptoRow.holds Try.pinned (OpenSpec.upto scalarSumsSpec)

/-- 'bastillelaw11.AeadBack', WHERE WHAT IT READS IS OF BULK AT MOST 1048576: true; the input reads as it did. -/
def aeadBackUptoRow : OpenClaim := { program := "ytpmldkhgdpchjaa", sum := "4785b2874af416d1c529acffd3dd029e4c148d576565f4a5e892272d2d88f5be", func := "bastille/bastillelaw11.AeadBack", spec := "aeadBack", unfollowed := true, recurses := true, apart := false, narrowed := true }
def AeadBackUptoSaid : Prop := aeadBackUptoRow.holds Try.pinned (OpenSpec.upto aeadBackSpec)

/-- 'bastillelaw06.ScalarLaws', WHERE WHAT IT READS IS OF BULK AT MOST 1048576: true; the input reads as it did. -/
def scalarLawsUptoRow : OpenClaim := { program := "ytpmldkhgdpchjaa", sum := "4785b2874af416d1c529acffd3dd029e4c148d576565f4a5e892272d2d88f5be", func := "bastille/bastillelaw06.ScalarLaws", spec := "scalarLaws", unfollowed := true, recurses := true, apart := false, narrowed := true }
def ScalarLawsUptoSaid : Prop := scalarLawsUptoRow.holds Try.pinned (OpenSpec.upto scalarLawsSpec)

/-- 'bastillelaw09.ChachaHides', WHERE WHAT IT READS IS OF BULK AT MOST 1048576: true; the input reads as it did. -/
def chachaHidesUptoRow : OpenClaim := { program := "ytpmldkhgdpchjaa", sum := "4785b2874af416d1c529acffd3dd029e4c148d576565f4a5e892272d2d88f5be", func := "bastille/bastillelaw09.ChachaHides", spec := "chachaHides", unfollowed := true, recurses := true, apart := false, narrowed := true }
def ChachaHidesUptoSaid : Prop := chachaHidesUptoRow.holds Try.pinned (OpenSpec.upto chachaHidesSpec)

/-- 'bastillelaw09.ChachaBack', WHERE WHAT IT READS IS OF BULK AT MOST 1048576: true; the input reads as it did. -/
def chachaBackUptoRow : OpenClaim := { program := "ytpmldkhgdpchjaa", sum := "4785b2874af416d1c529acffd3dd029e4c148d576565f4a5e892272d2d88f5be", func := "bastille/bastillelaw09.ChachaBack", spec := "chachaBack", unfollowed := true, recurses := true, apart := false, narrowed := true }
def ChachaBackUptoSaid : Prop := chachaBackUptoRow.holds Try.pinned (OpenSpec.upto chachaBackSpec)

/-- 'bastillelaw10.PolyTags', WHERE WHAT IT READS IS OF BULK AT MOST 1048576: true; the input reads as it did. -/
def polyTagsUptoRow : OpenClaim := { program := "ytpmldkhgdpchjaa", sum := "4785b2874af416d1c529acffd3dd029e4c148d576565f4a5e892272d2d88f5be", func := "bastille/bastillelaw10.PolyTags", spec := "polyTags", apart := false, narrowed := true }
def PolyTagsUptoSaid : Prop := polyTagsUptoRow.holds Try.pinned (OpenSpec.upto polyTagsSpec)

/-- 'bastillelaw10.PolyNumbers', WHERE WHAT IT READS IS OF BULK AT MOST 1048576: true; the input reads as it did. -/
def polyNumbersUptoRow : OpenClaim := { program := "ytpmldkhgdpchjaa", sum := "4785b2874af416d1c529acffd3dd029e4c148d576565f4a5e892272d2d88f5be", func := "bastille/bastillelaw10.PolyNumbers", spec := "polyNumbers", apart := false, narrowed := true }
def PolyNumbersUptoSaid : Prop := polyNumbersUptoRow.holds Try.pinned (OpenSpec.upto polyNumbersSpec)

/-- 'bastillelaw10.PolyLaws', WHERE WHAT IT READS IS OF BULK AT MOST 1048576: true; the input reads as it did. -/
def polyLawsUptoRow : OpenClaim := { program := "ytpmldkhgdpchjaa", sum := "4785b2874af416d1c529acffd3dd029e4c148d576565f4a5e892272d2d88f5be", func := "bastille/bastillelaw10.PolyLaws", spec := "polyLaws", apart := false, narrowed := true }
def PolyLawsUptoSaid : Prop := polyLawsUptoRow.holds Try.pinned (OpenSpec.upto polyLawsSpec)

/-- 'bastillelaw11.AeadSeals', WHERE WHAT IT READS IS OF BULK AT MOST 1048576: true; the input reads as it did. -/
def aeadSealsUptoRow : OpenClaim := { program := "ytpmldkhgdpchjaa", sum := "4785b2874af416d1c529acffd3dd029e4c148d576565f4a5e892272d2d88f5be", func := "bastille/bastillelaw11.AeadSeals", spec := "aeadSeals", unfollowed := true, recurses := true, apart := false, narrowed := true }
def AeadSealsUptoSaid : Prop := aeadSealsUptoRow.holds Try.pinned (OpenSpec.upto aeadSealsSpec)

end Rows
end Go.Proofs.Ytpmldkhgdpchjaa
