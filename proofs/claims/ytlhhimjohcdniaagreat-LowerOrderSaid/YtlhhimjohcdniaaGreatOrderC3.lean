/-
  The law LowerOrder: at some inputs, part 4. Nothing is asked.
-/
import Derived.Test.YtlhhimjohcdniaaGreatOrderU
namespace Go.Proofs.YtlhhimjohcdniaaGreat.lowerOrder
open Go Go.Ag
set_option maxRecDepth 100000
theorem c15 : (tells X15 [.int .u8 (.ofNat 3), .int .u8 (.ofNat 0)]) = true := by kernel_rfl
theorem c16 : (tells X16 [.int .u8 (.ofNat 3), .int .u8 (.ofNat 1)]) = true := by kernel_rfl
theorem c17 : (tells X17 [.int .u8 (.ofNat 3), .int .u8 (.ofNat 2)]) = true := by kernel_rfl
theorem c18 : (tells X18 [.int .u8 (.ofNat 3), .int .u8 (.ofNat 3)]) = true := by kernel_rfl
theorem c19 : (tells X19 [.int .u8 (.ofNat 3), .int .u8 (.ofNat 4)]) = true := by kernel_rfl
end Go.Proofs.YtlhhimjohcdniaaGreat.lowerOrder
