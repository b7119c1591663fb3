/-
  The law LowerCalls: at some inputs, part 1. Nothing is asked.
-/
import Derived.Test.YtlhhimjohcdniaaGreatCallsU
namespace Go.Proofs.YtlhhimjohcdniaaGreat.lowerCalls
open Go Go.Ag
set_option maxRecDepth 100000
theorem c0 : (tells X0 [.int .i64 (.ofNat 0)]) = true := by kernel_rfl
theorem c1 : (tells X0 [.int .i64 (.ofNat 1)]) = true := by kernel_rfl
theorem c2 : (tells X0 [.int .i64 (.ofNat 2)]) = true := by kernel_rfl
theorem c3 : (tells X0 [.int .i64 (.ofNat 3)]) = true := by kernel_rfl
theorem c4 : (tells X0 [.int .i64 (.ofNat 4)]) = true := by kernel_rfl
theorem c5 : (tells X0 [.int .i64 (.ofNat 5)]) = true := by kernel_rfl
theorem c6 : (tells X0 [.int .i64 (.ofNat 6)]) = true := by kernel_rfl
end Go.Proofs.YtlhhimjohcdniaaGreat.lowerCalls
