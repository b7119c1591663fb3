/-
  The law LowerCalls: at some inputs, part 2. Nothing is asked.
-/
import Derived.Test.YtlhhimjohcdniaaGreatCallsU
namespace Go.Proofs.YtlhhimjohcdniaaGreat.lowerCalls
open Go Go.Ag
set_option maxRecDepth 100000
theorem c7 : (tells X0 [.int .i64 (.ofNat 7)]) = true := by kernel_rfl
theorem c8 : (tells X0 [.int .i64 (.ofNat 8)]) = true := by kernel_rfl
theorem c9 : (tells X0 [.int .i64 (.ofNat 9)]) = true := by kernel_rfl
theorem c10 : (tells X0 [.int .i64 (.ofNat 10)]) = true := by kernel_rfl
theorem c11 : (tells X0 [.int .i64 (.ofNat 11)]) = true := by kernel_rfl
theorem c12 : (tells X0 [.int .i64 (.ofNat 12)]) = true := by kernel_rfl
theorem c13 : (tells X0 [.int .i64 (.ofNat 13)]) = true := by kernel_rfl
end Go.Proofs.YtlhhimjohcdniaaGreat.lowerCalls
