/-
  The law LowerCalls: at some inputs, part 6. Nothing is asked.
-/
import Derived.Test.YtlhhimjohcdniaaGreatCallsU
namespace Go.Proofs.YtlhhimjohcdniaaGreat.lowerCalls
open Go Go.Ag
set_option maxRecDepth 100000
theorem c35 : (tells X0 [.int .i64 (.ofNat 35)]) = true := by kernel_rfl
theorem c36 : (tells X0 [.int .i64 (.ofNat 36)]) = true := by kernel_rfl
theorem c37 : (tells X0 [.int .i64 (.ofNat 37)]) = true := by kernel_rfl
theorem c38 : (tells X0 [.int .i64 (.ofNat 38)]) = true := by kernel_rfl
theorem c39 : (tells X0 [.int .i64 (.ofNat 39)]) = true := by kernel_rfl
theorem c40 : (tells X0 [.int .i64 (.ofNat 40)]) = true := by kernel_rfl
end Go.Proofs.YtlhhimjohcdniaaGreat.lowerCalls
