/-
  The law LowerReturns: at some inputs, part 11. Nothing is asked.
-/
import Derived.Test.YtlhhimjohcdniaaGreatReturnsU
namespace Go.Proofs.YtlhhimjohcdniaaGreat.lowerReturns
open Go Go.Ag
set_option maxRecDepth 100000
theorem c270 : (tells X0 [.int .i64 (.ofNat 11), .int .i64 (.ofNat 15)]) = true := by kernel_rfl
theorem c271 : (tells X0 [.int .i64 (.ofNat 11), .int .i64 (.ofNat 16)]) = true := by kernel_rfl
theorem c272 : (tells X0 [.int .i64 (.ofNat 11), .int .i64 (.ofNat 17)]) = true := by kernel_rfl
theorem c273 : (tells X0 [.int .i64 (.ofNat 11), .int .i64 (.ofNat 18)]) = true := by kernel_rfl
theorem c274 : (tells X0 [.int .i64 (.ofNat 11), .int .i64 (.ofNat 19)]) = true := by kernel_rfl
theorem c275 : (tells X0 [.int .i64 (.ofNat 11), .int .i64 (.ofNat 20)]) = true := by kernel_rfl
theorem c276 : (tells X0 [.int .i64 (.ofNat 12), .int .i64 (.negSucc 1)]) = true := by kernel_rfl
theorem c277 : (tells X0 [.int .i64 (.ofNat 12), .int .i64 (.negSucc 0)]) = true := by kernel_rfl
theorem c278 : (tells X0 [.int .i64 (.ofNat 12), .int .i64 (.ofNat 0)]) = true := by kernel_rfl
theorem c279 : (tells X0 [.int .i64 (.ofNat 12), .int .i64 (.ofNat 1)]) = true := by kernel_rfl
theorem c280 : (tells X0 [.int .i64 (.ofNat 12), .int .i64 (.ofNat 2)]) = true := by kernel_rfl
theorem c281 : (tells X0 [.int .i64 (.ofNat 12), .int .i64 (.ofNat 3)]) = true := by kernel_rfl
theorem c282 : (tells X0 [.int .i64 (.ofNat 12), .int .i64 (.ofNat 4)]) = true := by kernel_rfl
theorem c283 : (tells X0 [.int .i64 (.ofNat 12), .int .i64 (.ofNat 5)]) = true := by kernel_rfl
theorem c284 : (tells X0 [.int .i64 (.ofNat 12), .int .i64 (.ofNat 6)]) = true := by kernel_rfl
theorem c285 : (tells X0 [.int .i64 (.ofNat 12), .int .i64 (.ofNat 7)]) = true := by kernel_rfl
theorem c286 : (tells X0 [.int .i64 (.ofNat 12), .int .i64 (.ofNat 8)]) = true := by kernel_rfl
theorem c287 : (tells X0 [.int .i64 (.ofNat 12), .int .i64 (.ofNat 9)]) = true := by kernel_rfl
theorem c288 : (tells X0 [.int .i64 (.ofNat 12), .int .i64 (.ofNat 10)]) = true := by kernel_rfl
theorem c289 : (tells X0 [.int .i64 (.ofNat 12), .int .i64 (.ofNat 11)]) = true := by kernel_rfl
theorem c290 : (tells X0 [.int .i64 (.ofNat 12), .int .i64 (.ofNat 12)]) = true := by kernel_rfl
theorem c291 : (tells X0 [.int .i64 (.ofNat 12), .int .i64 (.ofNat 13)]) = true := by kernel_rfl
theorem c292 : (tells X0 [.int .i64 (.ofNat 12), .int .i64 (.ofNat 14)]) = true := by kernel_rfl
theorem c293 : (tells X0 [.int .i64 (.ofNat 12), .int .i64 (.ofNat 15)]) = true := by kernel_rfl
theorem c294 : (tells X0 [.int .i64 (.ofNat 12), .int .i64 (.ofNat 16)]) = true := by kernel_rfl
theorem c295 : (tells X0 [.int .i64 (.ofNat 12), .int .i64 (.ofNat 17)]) = true := by kernel_rfl
theorem c296 : (tells X0 [.int .i64 (.ofNat 12), .int .i64 (.ofNat 18)]) = true := by kernel_rfl
end Go.Proofs.YtlhhimjohcdniaaGreat.lowerReturns
