/-
  The law LowerOrder: at some inputs, part 2. Nothing is asked.
-/
import Derived.Test.YtlhhimjohcdniaaGreatOrderU
namespace Go.Proofs.YtlhhimjohcdniaaGreat.lowerOrder
open Go Go.Ag
set_option maxRecDepth 100000
theorem c5 : (tells X5 [.int .u8 (.ofNat 1), .int .u8 (.ofNat 0)]) = true := by kernel_rfl
theorem c6 : (tells X6 [.int .u8 (.ofNat 1), .int .u8 (.ofNat 1)]) = true := by kernel_rfl
theorem c7 : (tells X7 [.int .u8 (.ofNat 1), .int .u8 (.ofNat 2)]) = true := by kernel_rfl
theorem c8 : (tells X8 [.int .u8 (.ofNat 1), .int .u8 (.ofNat 3)]) = true := by kernel_rfl
theorem c9 : (tells X9 [.int .u8 (.ofNat 1), .int .u8 (.ofNat 4)]) = true := by kernel_rfl
end Go.Proofs.YtlhhimjohcdniaaGreat.lowerOrder
