/-
  The law LowerReturns: at some inputs, part 14. Nothing is asked.
-/
import Derived.Test.YtlhhimjohcdniaaGreatReturnsU
namespace Go.Proofs.YtlhhimjohcdniaaGreat.lowerReturns
open Go Go.Ag
set_option maxRecDepth 100000
theorem c351 : (tells X0 [.int .i64 (.ofNat 15), .int .i64 (.ofNat 4)]) = true := by kernel_rfl
theorem c352 : (tells X0 [.int .i64 (.ofNat 15), .int .i64 (.ofNat 5)]) = true := by kernel_rfl
theorem c353 : (tells X0 [.int .i64 (.ofNat 15), .int .i64 (.ofNat 6)]) = true := by kernel_rfl
theorem c354 : (tells X0 [.int .i64 (.ofNat 15), .int .i64 (.ofNat 7)]) = true := by kernel_rfl
theorem c355 : (tells X0 [.int .i64 (.ofNat 15), .int .i64 (.ofNat 8)]) = true := by kernel_rfl
theorem c356 : (tells X0 [.int .i64 (.ofNat 15), .int .i64 (.ofNat 9)]) = true := by kernel_rfl
theorem c357 : (tells X0 [.int .i64 (.ofNat 15), .int .i64 (.ofNat 10)]) = true := by kernel_rfl
theorem c358 : (tells X0 [.int .i64 (.ofNat 15), .int .i64 (.ofNat 11)]) = true := by kernel_rfl
theorem c359 : (tells X0 [.int .i64 (.ofNat 15), .int .i64 (.ofNat 12)]) = true := by kernel_rfl
theorem c360 : (tells X0 [.int .i64 (.ofNat 15), .int .i64 (.ofNat 13)]) = true := by kernel_rfl
theorem c361 : (tells X0 [.int .i64 (.ofNat 15), .int .i64 (.ofNat 14)]) = true := by kernel_rfl
end Go.Proofs.YtlhhimjohcdniaaGreat.lowerReturns
