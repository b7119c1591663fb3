/-
  The law LowerCalls: at some inputs, part 3. Nothing is asked.
-/
import Derived.Test.YtlhhimjohcdniaaGreatCallsU
namespace Go.Proofs.YtlhhimjohcdniaaGreat.lowerCalls
open Go Go.Ag
set_option maxRecDepth 100000
theorem c14 : (tells X0 [.int .i64 (.ofNat 14)]) = true := by kernel_rfl
theorem c15 : (tells X0 [.int .i64 (.ofNat 15)]) = true := by kernel_rfl
theorem c16 : (tells X0 [.int .i64 (.ofNat 16)]) = true := by kernel_rfl
theorem c17 : (tells X0 [.int .i64 (.ofNat 17)]) = true := by kernel_rfl
theorem c18 : (tells X0 [.int .i64 (.ofNat 18)]) = true := by kernel_rfl
theorem c19 : (tells X0 [.int .i64 (.ofNat 19)]) = true := by kernel_rfl
theorem c20 : (tells X0 [.int .i64 (.ofNat 20)]) = true := by kernel_rfl
end Go.Proofs.YtlhhimjohcdniaaGreat.lowerCalls
