/-
  The law LowerCalls: at some inputs, part 4. Nothing is asked.
-/
import Derived.Test.YtlhhimjohcdniaaGreatCallsU
namespace Go.Proofs.YtlhhimjohcdniaaGreat.lowerCalls
open Go Go.Ag
set_option maxRecDepth 100000
theorem c21 : (tells X0 [.int .i64 (.ofNat 21)]) = true := by kernel_rfl
theorem c22 : (tells X0 [.int .i64 (.ofNat 22)]) = true := by kernel_rfl
theorem c23 : (tells X0 [.int .i64 (.ofNat 23)]) = true := by kernel_rfl
theorem c24 : (tells X0 [.int .i64 (.ofNat 24)]) = true := by kernel_rfl
theorem c25 : (tells X0 [.int .i64 (.ofNat 25)]) = true := by kernel_rfl
theorem c26 : (tells X0 [.int .i64 (.ofNat 26)]) = true := by kernel_rfl
theorem c27 : (tells X0 [.int .i64 (.ofNat 27)]) = true := by kernel_rfl
end Go.Proofs.YtlhhimjohcdniaaGreat.lowerCalls
