/-
  The law InlineDepth: at some inputs, part 3. Nothing is asked.
-/
import Derived.Test.YtlhhimjohcdniaaGreatDepthU
namespace Go.Proofs.YtlhhimjohcdniaaGreat.inlineDepth
open Go Go.Ag
set_option maxRecDepth 100000
theorem c22 : (tells X0 [.int .i64 (.ofNat 22)]) = true := by kernel_rfl
theorem c23 : (tells X0 [.int .i64 (.ofNat 23)]) = true := by kernel_rfl
theorem c24 : (tells X0 [.int .i64 (.ofNat 24)]) = true := by kernel_rfl
theorem c25 : (tells X0 [.int .i64 (.ofNat 25)]) = true := by kernel_rfl
theorem c26 : (tells X0 [.int .i64 (.ofNat 26)]) = true := by kernel_rfl
theorem c27 : (tells X0 [.int .i64 (.ofNat 27)]) = true := by kernel_rfl
theorem c28 : (tells X0 [.int .i64 (.ofNat 28)]) = true := by kernel_rfl
theorem c29 : (tells X0 [.int .i64 (.ofNat 29)]) = true := by kernel_rfl
theorem c30 : (tells X0 [.int .i64 (.ofNat 30)]) = true := by kernel_rfl
end Go.Proofs.YtlhhimjohcdniaaGreat.inlineDepth
