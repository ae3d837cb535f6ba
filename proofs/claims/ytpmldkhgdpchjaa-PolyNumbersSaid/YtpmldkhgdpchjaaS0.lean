/- Walks of the Go functions, printed by a program of this claim. Conditions: none. -/
import Derived.Test.YtpmldkhgdpchjaaM4
import Derived.Test.YtpmldkhgdpchjaaProg
set_option linter.unusedVariables false
namespace Go.Proofs.Ytpmldkhgdpchjaa
open Go.MW
theorem mixed : Try.prog.follows .mixedOrders = true := by kernel_rfl
theorem ei3 : (Try.prog.info? 3).map (fun i => (i.zero, i.size, i.bytes)) = some (some (vn .i64 0), 1, 8) := by kernel_rfl
theorem ei5 : (Try.prog.info? 5).map (fun i => (i.zero, i.size, i.bytes)) = some (some (vn .u8 0), 1, 1) := by kernel_rfl

theorem i22 : (Try.prog.info? 22).map (·.size) = some 32 := by kernel_rfl

theorem i23 : (Try.prog.info? 23).map (·.size) = some 12 := by kernel_rfl

theorem i27 : (Try.prog.info? 27).map (·.size) = some 4 := by kernel_rfl

theorem i33 : (Try.prog.info? 33).map (·.size) = some 64 := by kernel_rfl

theorem i71 : (Try.prog.info? 71).map (·.size) = some 16 := by kernel_rfl

theorem i75 : (Try.prog.info? 75).map (·.size) = some 17 := by kernel_rfl

theorem i76 : (Try.prog.info? 76).map (·.size) = some 17 := by kernel_rfl

theorem i94 : (Try.prog.info? 94).map (·.size) = some 16 := by kernel_rfl

theorem i100 : (Try.prog.info? 100).map (·.size) = some 17 := by kernel_rfl

theorem i101 : (Try.prog.info? 101).map (·.size) = some 17 := by kernel_rfl

theorem i108 : (Try.prog.info? 108).map (·.size) = some 34 := by kernel_rfl

theorem i109 : (Try.prog.info? 109).map (·.size) = some 68 := by kernel_rfl

theorem i112 : (Try.prog.info? 112).map (·.size) = some 17 := by kernel_rfl

theorem z22 (w : World) : (zeroValue 22).run Try.prog w = .ok (.agg (arr .u8 32 fun _ => 0)) w := Try.zeroValue22 w

theorem z23 (w : World) : (zeroValue 23).run Try.prog w = .ok (.agg (arr .u8 12 fun _ => 0)) w := Try.zeroValue23 w

theorem z27 (w : World) : (zeroValue 27).run Try.prog w = .ok (.agg (arr .u32 4 fun _ => 0)) w := Try.zeroValue27 w

theorem z33 (w : World) : (zeroValue 33).run Try.prog w = .ok (.agg (arr .u8 64 fun _ => 0)) w := Try.zeroValue33 w

theorem z71 (w : World) : (zeroValue 71).run Try.prog w = .ok (.agg (arr .u8 16 fun _ => 0)) w := Try.zeroValue71 w

theorem z75 (w : World) : (zeroValue 75).run Try.prog w = .ok (.agg (arr .u8 17 fun _ => 0)) w := Try.zeroValue75 w

theorem z76 (w : World) : (zeroValue 76).run Try.prog w = .ok (.agg (arr .u8 17 fun _ => 0)) w := Try.zeroValue76 w

theorem z94 (w : World) : (zeroValue 94).run Try.prog w = .ok (.agg (arr .u32 16 fun _ => 0)) w := Try.zeroValue94 w

theorem z100 (w : World) : (zeroValue 100).run Try.prog w = .ok (.agg (arr .u32 17 fun _ => 0)) w := Try.zeroValue100 w

theorem z101 (w : World) : (zeroValue 101).run Try.prog w = .ok (.agg (arr .u32 17 fun _ => 0)) w := Try.zeroValue101 w

theorem z108 (w : World) : (zeroValue 108).run Try.prog w = .ok (.agg (arr .u64 34 fun _ => 0)) w := Try.zeroValue108 w

theorem z112 (w : World) : (zeroValue 112).run Try.prog w = .ok (.agg (arr .u32 17 fun _ => 0)) w := Try.zeroValue112 w

end Go.Proofs.Ytpmldkhgdpchjaa
