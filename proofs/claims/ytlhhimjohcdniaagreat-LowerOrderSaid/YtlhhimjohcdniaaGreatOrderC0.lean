/-
  The law LowerOrder: at some inputs, part 1. Nothing is asked.
-/
import Derived.Test.YtlhhimjohcdniaaGreatOrderU
namespace Go.Proofs.YtlhhimjohcdniaaGreat.lowerOrder
open Go Go.Ag
set_option maxRecDepth 100000
theorem c0 : (tells X0 [.int .u8 (.ofNat 0), .int .u8 (.ofNat 0)]) = true := by kernel_rfl
theorem c1 : (tells X1 [.int .u8 (.ofNat 0), .int .u8 (.ofNat 1)]) = true := by kernel_rfl
theorem c2 : (tells X2 [.int .u8 (.ofNat 0), .int .u8 (.ofNat 2)]) = true := by kernel_rfl
theorem c3 : (tells X3 [.int .u8 (.ofNat 0), .int .u8 (.ofNat 3)]) = true := by kernel_rfl
theorem c4 : (tells X4 [.int .u8 (.ofNat 0), .int .u8 (.ofNat 4)]) = true := by kernel_rfl
end Go.Proofs.YtlhhimjohcdniaaGreat.lowerOrder
