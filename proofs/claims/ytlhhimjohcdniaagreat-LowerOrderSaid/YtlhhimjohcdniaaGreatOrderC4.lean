/-
  The law LowerOrder: at some inputs, part 5. Nothing is asked.
-/
import Derived.Test.YtlhhimjohcdniaaGreatOrderU
namespace Go.Proofs.YtlhhimjohcdniaaGreat.lowerOrder
open Go Go.Ag
set_option maxRecDepth 100000
theorem c20 : (tells X20 [.int .u8 (.ofNat 4), .int .u8 (.ofNat 0)]) = true := by kernel_rfl
theorem c21 : (tells X21 [.int .u8 (.ofNat 4), .int .u8 (.ofNat 1)]) = true := by kernel_rfl
theorem c22 : (tells X22 [.int .u8 (.ofNat 4), .int .u8 (.ofNat 2)]) = true := by kernel_rfl
theorem c23 : (tells X23 [.int .u8 (.ofNat 4), .int .u8 (.ofNat 3)]) = true := by kernel_rfl
theorem c24 : (tells X24 [.int .u8 (.ofNat 4), .int .u8 (.ofNat 4)]) = true := by kernel_rfl
end Go.Proofs.YtlhhimjohcdniaaGreat.lowerOrder
