/-
  The law LowerReturns: at some inputs, part 12. Nothing is asked.
-/
import Derived.Test.YtlhhimjohcdniaaGreatReturnsU
namespace Go.Proofs.YtlhhimjohcdniaaGreat.lowerReturns
open Go Go.Ag
set_option maxRecDepth 100000
theorem c297 : (tells X0 [.int .i64 (.ofNat 12), .int .i64 (.ofNat 19)]) = true := by kernel_rfl
theorem c298 : (tells X0 [.int .i64 (.ofNat 12), .int .i64 (.ofNat 20)]) = true := by kernel_rfl
theorem c299 : (tells X0 [.int .i64 (.ofNat 13), .int .i64 (.negSucc 1)]) = true := by kernel_rfl
theorem c300 : (tells X0 [.int .i64 (.ofNat 13), .int .i64 (.negSucc 0)]) = true := by kernel_rfl
theorem c301 : (tells X0 [.int .i64 (.ofNat 13), .int .i64 (.ofNat 0)]) = true := by kernel_rfl
theorem c302 : (tells X0 [.int .i64 (.ofNat 13), .int .i64 (.ofNat 1)]) = true := by kernel_rfl
theorem c303 : (tells X0 [.int .i64 (.ofNat 13), .int .i64 (.ofNat 2)]) = true := by kernel_rfl
theorem c304 : (tells X0 [.int .i64 (.ofNat 13), .int .i64 (.ofNat 3)]) = true := by kernel_rfl
theorem c305 : (tells X0 [.int .i64 (.ofNat 13), .int .i64 (.ofNat 4)]) = true := by kernel_rfl
theorem c306 : (tells X0 [.int .i64 (.ofNat 13), .int .i64 (.ofNat 5)]) = true := by kernel_rfl
theorem c307 : (tells X0 [.int .i64 (.ofNat 13), .int .i64 (.ofNat 6)]) = true := by kernel_rfl
theorem c308 : (tells X0 [.int .i64 (.ofNat 13), .int .i64 (.ofNat 7)]) = true := by kernel_rfl
theorem c309 : (tells X0 [.int .i64 (.ofNat 13), .int .i64 (.ofNat 8)]) = true := by kernel_rfl
theorem c310 : (tells X0 [.int .i64 (.ofNat 13), .int .i64 (.ofNat 9)]) = true := by kernel_rfl
theorem c311 : (tells X0 [.int .i64 (.ofNat 13), .int .i64 (.ofNat 10)]) = true := by kernel_rfl
theorem c312 : (tells X0 [.int .i64 (.ofNat 13), .int .i64 (.ofNat 11)]) = true := by kernel_rfl
theorem c313 : (tells X0 [.int .i64 (.ofNat 13), .int .i64 (.ofNat 12)]) = true := by kernel_rfl
theorem c314 : (tells X0 [.int .i64 (.ofNat 13), .int .i64 (.ofNat 13)]) = true := by kernel_rfl
theorem c315 : (tells X0 [.int .i64 (.ofNat 13), .int .i64 (.ofNat 14)]) = true := by kernel_rfl
theorem c316 : (tells X0 [.int .i64 (.ofNat 13), .int .i64 (.ofNat 15)]) = true := by kernel_rfl
theorem c317 : (tells X0 [.int .i64 (.ofNat 13), .int .i64 (.ofNat 16)]) = true := by kernel_rfl
theorem c318 : (tells X0 [.int .i64 (.ofNat 13), .int .i64 (.ofNat 17)]) = true := by kernel_rfl
theorem c319 : (tells X0 [.int .i64 (.ofNat 13), .int .i64 (.ofNat 18)]) = true := by kernel_rfl
theorem c320 : (tells X0 [.int .i64 (.ofNat 13), .int .i64 (.ofNat 19)]) = true := by kernel_rfl
theorem c321 : (tells X0 [.int .i64 (.ofNat 13), .int .i64 (.ofNat 20)]) = true := by kernel_rfl
theorem c322 : (tells X0 [.int .i64 (.ofNat 14), .int .i64 (.negSucc 1)]) = true := by kernel_rfl
theorem c323 : (tells X0 [.int .i64 (.ofNat 14), .int .i64 (.negSucc 0)]) = true := by kernel_rfl
end Go.Proofs.YtlhhimjohcdniaaGreat.lowerReturns
