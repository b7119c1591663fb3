/-
  The law InlineDepth: at some inputs, part 1. Nothing is asked.
-/
import Derived.Test.YtlhhimjohcdniaaGreatDepthU
namespace Go.Proofs.YtlhhimjohcdniaaGreat.inlineDepth
open Go Go.Ag
set_option maxRecDepth 100000
theorem c0 : (tells X0 [.int .i64 (.ofNat 0)]) = true := by kernel_rfl
theorem c1 : (tells X0 [.int .i64 (.ofNat 1)]) = true := by kernel_rfl
theorem c2 : (tells X0 [.int .i64 (.ofNat 2)]) = true := by kernel_rfl
theorem c3 : (tells X0 [.int .i64 (.ofNat 3)]) = true := by kernel_rfl
theorem c4 : (tells X0 [.int .i64 (.ofNat 4)]) = true := by kernel_rfl
theorem c5 : (tells X0 [.int .i64 (.ofNat 5)]) = true := by kernel_rfl
theorem c6 : (tells X0 [.int .i64 (.ofNat 6)]) = true := by kernel_rfl
theorem c7 : (tells X0 [.int .i64 (.ofNat 7)]) = true := by kernel_rfl
theorem c8 : (tells X0 [.int .i64 (.ofNat 8)]) = true := by kernel_rfl
theorem c9 : (tells X0 [.int .i64 (.ofNat 9)]) = true := by kernel_rfl
theorem c10 : (tells X0 [.int .i64 (.ofNat 10)]) = true := by kernel_rfl
end Go.Proofs.YtlhhimjohcdniaaGreat.inlineDepth
