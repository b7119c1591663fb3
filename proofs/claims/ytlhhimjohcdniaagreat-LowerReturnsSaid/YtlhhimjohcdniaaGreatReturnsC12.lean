/-
  The law LowerReturns: at some inputs, part 13. Nothing is asked.
-/
import Derived.Test.YtlhhimjohcdniaaGreatReturnsU
namespace Go.Proofs.YtlhhimjohcdniaaGreat.lowerReturns
open Go Go.Ag
set_option maxRecDepth 100000
theorem c324 : (tells X0 [.int .i64 (.ofNat 14), .int .i64 (.ofNat 0)]) = true := by kernel_rfl
theorem c325 : (tells X0 [.int .i64 (.ofNat 14), .int .i64 (.ofNat 1)]) = true := by kernel_rfl
theorem c326 : (tells X0 [.int .i64 (.ofNat 14), .int .i64 (.ofNat 2)]) = true := by kernel_rfl
theorem c327 : (tells X0 [.int .i64 (.ofNat 14), .int .i64 (.ofNat 3)]) = true := by kernel_rfl
theorem c328 : (tells X0 [.int .i64 (.ofNat 14), .int .i64 (.ofNat 4)]) = true := by kernel_rfl
theorem c329 : (tells X0 [.int .i64 (.ofNat 14), .int .i64 (.ofNat 5)]) = true := by kernel_rfl
theorem c330 : (tells X0 [.int .i64 (.ofNat 14), .int .i64 (.ofNat 6)]) = true := by kernel_rfl
theorem c331 : (tells X0 [.int .i64 (.ofNat 14), .int .i64 (.ofNat 7)]) = true := by kernel_rfl
theorem c332 : (tells X0 [.int .i64 (.ofNat 14), .int .i64 (.ofNat 8)]) = true := by kernel_rfl
theorem c333 : (tells X0 [.int .i64 (.ofNat 14), .int .i64 (.ofNat 9)]) = true := by kernel_rfl
theorem c334 : (tells X0 [.int .i64 (.ofNat 14), .int .i64 (.ofNat 10)]) = true := by kernel_rfl
theorem c335 : (tells X0 [.int .i64 (.ofNat 14), .int .i64 (.ofNat 11)]) = true := by kernel_rfl
theorem c336 : (tells X0 [.int .i64 (.ofNat 14), .int .i64 (.ofNat 12)]) = true := by kernel_rfl
theorem c337 : (tells X0 [.int .i64 (.ofNat 14), .int .i64 (.ofNat 13)]) = true := by kernel_rfl
theorem c338 : (tells X0 [.int .i64 (.ofNat 14), .int .i64 (.ofNat 14)]) = true := by kernel_rfl
theorem c339 : (tells X0 [.int .i64 (.ofNat 14), .int .i64 (.ofNat 15)]) = true := by kernel_rfl
theorem c340 : (tells X0 [.int .i64 (.ofNat 14), .int .i64 (.ofNat 16)]) = true := by kernel_rfl
theorem c341 : (tells X0 [.int .i64 (.ofNat 14), .int .i64 (.ofNat 17)]) = true := by kernel_rfl
theorem c342 : (tells X0 [.int .i64 (.ofNat 14), .int .i64 (.ofNat 18)]) = true := by kernel_rfl
theorem c343 : (tells X0 [.int .i64 (.ofNat 14), .int .i64 (.ofNat 19)]) = true := by kernel_rfl
theorem c344 : (tells X0 [.int .i64 (.ofNat 14), .int .i64 (.ofNat 20)]) = true := by kernel_rfl
theorem c347 : (tells X0 [.int .i64 (.ofNat 15), .int .i64 (.ofNat 0)]) = true := by kernel_rfl
theorem c348 : (tells X0 [.int .i64 (.ofNat 15), .int .i64 (.ofNat 1)]) = true := by kernel_rfl
theorem c349 : (tells X0 [.int .i64 (.ofNat 15), .int .i64 (.ofNat 2)]) = true := by kernel_rfl
theorem c350 : (tells X0 [.int .i64 (.ofNat 15), .int .i64 (.ofNat 3)]) = true := by kernel_rfl
end Go.Proofs.YtlhhimjohcdniaaGreat.lowerReturns
