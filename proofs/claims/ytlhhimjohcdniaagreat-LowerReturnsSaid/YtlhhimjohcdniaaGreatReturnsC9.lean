/-
  The law LowerReturns: at some inputs, part 10. Nothing is asked.
-/
import Derived.Test.YtlhhimjohcdniaaGreatReturnsU
namespace Go.Proofs.YtlhhimjohcdniaaGreat.lowerReturns
open Go Go.Ag
set_option maxRecDepth 100000
theorem c243 : (tells X0 [.int .i64 (.ofNat 10), .int .i64 (.ofNat 11)]) = true := by kernel_rfl
theorem c244 : (tells X0 [.int .i64 (.ofNat 10), .int .i64 (.ofNat 12)]) = true := by kernel_rfl
theorem c245 : (tells X0 [.int .i64 (.ofNat 10), .int .i64 (.ofNat 13)]) = true := by kernel_rfl
theorem c246 : (tells X0 [.int .i64 (.ofNat 10), .int .i64 (.ofNat 14)]) = true := by kernel_rfl
theorem c247 : (tells X0 [.int .i64 (.ofNat 10), .int .i64 (.ofNat 15)]) = true := by kernel_rfl
theorem c248 : (tells X0 [.int .i64 (.ofNat 10), .int .i64 (.ofNat 16)]) = true := by kernel_rfl
theorem c249 : (tells X0 [.int .i64 (.ofNat 10), .int .i64 (.ofNat 17)]) = true := by kernel_rfl
theorem c250 : (tells X0 [.int .i64 (.ofNat 10), .int .i64 (.ofNat 18)]) = true := by kernel_rfl
theorem c251 : (tells X0 [.int .i64 (.ofNat 10), .int .i64 (.ofNat 19)]) = true := by kernel_rfl
theorem c252 : (tells X0 [.int .i64 (.ofNat 10), .int .i64 (.ofNat 20)]) = true := by kernel_rfl
theorem c253 : (tells X0 [.int .i64 (.ofNat 11), .int .i64 (.negSucc 1)]) = true := by kernel_rfl
theorem c254 : (tells X0 [.int .i64 (.ofNat 11), .int .i64 (.negSucc 0)]) = true := by kernel_rfl
theorem c255 : (tells X0 [.int .i64 (.ofNat 11), .int .i64 (.ofNat 0)]) = true := by kernel_rfl
theorem c256 : (tells X0 [.int .i64 (.ofNat 11), .int .i64 (.ofNat 1)]) = true := by kernel_rfl
theorem c257 : (tells X0 [.int .i64 (.ofNat 11), .int .i64 (.ofNat 2)]) = true := by kernel_rfl
theorem c258 : (tells X0 [.int .i64 (.ofNat 11), .int .i64 (.ofNat 3)]) = true := by kernel_rfl
theorem c259 : (tells X0 [.int .i64 (.ofNat 11), .int .i64 (.ofNat 4)]) = true := by kernel_rfl
theorem c260 : (tells X0 [.int .i64 (.ofNat 11), .int .i64 (.ofNat 5)]) = true := by kernel_rfl
theorem c261 : (tells X0 [.int .i64 (.ofNat 11), .int .i64 (.ofNat 6)]) = true := by kernel_rfl
theorem c262 : (tells X0 [.int .i64 (.ofNat 11), .int .i64 (.ofNat 7)]) = true := by kernel_rfl
theorem c263 : (tells X0 [.int .i64 (.ofNat 11), .int .i64 (.ofNat 8)]) = true := by kernel_rfl
theorem c264 : (tells X0 [.int .i64 (.ofNat 11), .int .i64 (.ofNat 9)]) = true := by kernel_rfl
theorem c265 : (tells X0 [.int .i64 (.ofNat 11), .int .i64 (.ofNat 10)]) = true := by kernel_rfl
theorem c266 : (tells X0 [.int .i64 (.ofNat 11), .int .i64 (.ofNat 11)]) = true := by kernel_rfl
theorem c267 : (tells X0 [.int .i64 (.ofNat 11), .int .i64 (.ofNat 12)]) = true := by kernel_rfl
theorem c268 : (tells X0 [.int .i64 (.ofNat 11), .int .i64 (.ofNat 13)]) = true := by kernel_rfl
theorem c269 : (tells X0 [.int .i64 (.ofNat 11), .int .i64 (.ofNat 14)]) = true := by kernel_rfl
end Go.Proofs.YtlhhimjohcdniaaGreat.lowerReturns
