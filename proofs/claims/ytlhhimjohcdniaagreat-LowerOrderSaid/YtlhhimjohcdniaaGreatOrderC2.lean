/-
  The law LowerOrder: at some inputs, part 3. Nothing is asked.
-/
import Derived.Test.YtlhhimjohcdniaaGreatOrderU
namespace Go.Proofs.YtlhhimjohcdniaaGreat.lowerOrder
open Go Go.Ag
set_option maxRecDepth 100000
theorem c10 : (tells X10 [.int .u8 (.ofNat 2), .int .u8 (.ofNat 0)]) = true := by kernel_rfl
theorem c11 : (tells X11 [.int .u8 (.ofNat 2), .int .u8 (.ofNat 1)]) = true := by kernel_rfl
theorem c12 : (tells X12 [.int .u8 (.ofNat 2), .int .u8 (.ofNat 2)]) = true := by kernel_rfl
theorem c13 : (tells X13 [.int .u8 (.ofNat 2), .int .u8 (.ofNat 3)]) = true := by kernel_rfl
theorem c14 : (tells X14 [.int .u8 (.ofNat 2), .int .u8 (.ofNat 4)]) = true := by kernel_rfl
end Go.Proofs.YtlhhimjohcdniaaGreat.lowerOrder
