/-
  The law LowerCalls: at some inputs, part 5. Nothing is asked.
-/
import Derived.Test.YtlhhimjohcdniaaGreatCallsU
namespace Go.Proofs.YtlhhimjohcdniaaGreat.lowerCalls
open Go Go.Ag
set_option maxRecDepth 100000
theorem c28 : (tells X0 [.int .i64 (.ofNat 28)]) = true := by kernel_rfl
theorem c29 : (tells X0 [.int .i64 (.ofNat 29)]) = true := by kernel_rfl
theorem c30 : (tells X0 [.int .i64 (.ofNat 30)]) = true := by kernel_rfl
theorem c31 : (tells X0 [.int .i64 (.ofNat 31)]) = true := by kernel_rfl
theorem c32 : (tells X0 [.int .i64 (.ofNat 32)]) = true := by kernel_rfl
theorem c33 : (tells X0 [.int .i64 (.ofNat 33)]) = true := by kernel_rfl
theorem c34 : (tells X0 [.int .i64 (.ofNat 34)]) = true := by kernel_rfl
end Go.Proofs.YtlhhimjohcdniaaGreat.lowerCalls
