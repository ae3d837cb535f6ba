/- What the claim of this folder needs of its texts, put together by a program of this claim. Conditions: none. -/
import Derived.Test.YtpmldkhgdpchjaaProg
import Derived.Test.YtpmldkhgdpchjaaBAB1
set_option linter.unusedVariables false
namespace Go.Proofs.Ytpmldkhgdpchjaa
open Go.MW
theorem mixed : Try.prog.follows .mixedOrders = true := by kernel_rfl
theorem ei5 : (Try.prog.info? 5).map (fun i => (i.zero, i.size, i.bytes)) = some (some (vn .u8 0), 1, 1) := by kernel_rfl

theorem i22 : (Try.prog.info? 22).map (·.size) = some 32 := by kernel_rfl

theorem i23 : (Try.prog.info? 23).map (·.size) = some 12 := by kernel_rfl

theorem i33 : (Try.prog.info? 33).map (·.size) = some 64 := by kernel_rfl

theorem i71 : (Try.prog.info? 71).map (·.size) = some 16 := by kernel_rfl

theorem i76 : (Try.prog.info? 76).map (·.size) = some 17 := by kernel_rfl

theorem i94 : (Try.prog.info? 94).map (·.size) = some 16 := by kernel_rfl

theorem i112 : (Try.prog.info? 112).map (·.size) = some 17 := by kernel_rfl

theorem z33 (w : World) : (zeroValue 33).run Try.prog w = .ok (.agg (arr .u8 64 fun _ => 0)) w := Try.zeroValue33 w

theorem z71 (w : World) : (zeroValue 71).run Try.prog w = .ok (.agg (arr .u8 16 fun _ => 0)) w := Try.zeroValue71 w

theorem z76 (w : World) : (zeroValue 76).run Try.prog w = .ok (.agg (arr .u8 17 fun _ => 0)) w := Try.zeroValue76 w

theorem z94 (w : World) : (zeroValue 94).run Try.prog w = .ok (.agg (arr .u32 16 fun _ => 0)) w := Try.zeroValue94 w

theorem z112 (w : World) : (zeroValue 112).run Try.prog w = .ok (.agg (arr .u32 17 fun _ => 0)) w := Try.zeroValue112 w

end Go.Proofs.Ytpmldkhgdpchjaa

set_option linter.unusedVariables false
namespace Go.Proofs.Ytpmldkhgdpchjaa
open Go.MW
end Go.Proofs.Ytpmldkhgdpchjaa

set_option linter.unusedVariables false
namespace Go.Proofs.Ytpmldkhgdpchjaa
open Go.MW
end Go.Proofs.Ytpmldkhgdpchjaa

set_option linter.unusedVariables false
namespace Go.Proofs.Ytpmldkhgdpchjaa
open Go.MW
end Go.Proofs.Ytpmldkhgdpchjaa

set_option linter.unusedVariables false
namespace Go.Proofs.Ytpmldkhgdpchjaa
open Go.MW
end Go.Proofs.Ytpmldkhgdpchjaa

set_option linter.unusedVariables false
namespace Go.Proofs.Ytpmldkhgdpchjaa
open Go.MW
end Go.Proofs.Ytpmldkhgdpchjaa

set_option linter.unusedVariables false
namespace Go.Proofs.Ytpmldkhgdpchjaa
open Go.MW
end Go.Proofs.Ytpmldkhgdpchjaa

set_option linter.unusedVariables false
namespace Go.Proofs.Ytpmldkhgdpchjaa
open Go.MW
end Go.Proofs.Ytpmldkhgdpchjaa

set_option linter.unusedVariables false
namespace Go.Proofs.Ytpmldkhgdpchjaa
open Go.MW
end Go.Proofs.Ytpmldkhgdpchjaa

set_option linter.unusedVariables false
namespace Go.Proofs.Ytpmldkhgdpchjaa
open Go.MW
end Go.Proofs.Ytpmldkhgdpchjaa

set_option linter.unusedVariables false
namespace Go.Proofs.Ytpmldkhgdpchjaa
open Go.MW
end Go.Proofs.Ytpmldkhgdpchjaa
