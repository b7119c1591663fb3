/-
  The law LowerReturns: at some inputs, part 9. Nothing is asked.
-/
import Derived.Test.YtlhhimjohcdniaaGreatReturnsU
namespace Go.Proofs.YtlhhimjohcdniaaGreat.lowerReturns
open Go Go.Ag
set_option maxRecDepth 100000
theorem c216 : (tells X0 [.int .i64 (.ofNat 9), .int .i64 (.ofNat 7)]) = true := by kernel_rfl
theorem c217 : (tells X0 [.int .i64 (.ofNat 9), .int .i64 (.ofNat 8)]) = true := by kernel_rfl
theorem c218 : (tells X0 [.int .i64 (.ofNat 9), .int .i64 (.ofNat 9)]) = true := by kernel_rfl
theorem c219 : (tells X0 [.int .i64 (.ofNat 9), .int .i64 (.ofNat 10)]) = true := by kernel_rfl
theorem c220 : (tells X0 [.int .i64 (.ofNat 9), .int .i64 (.ofNat 11)]) = true := by kernel_rfl
theorem c221 : (tells X0 [.int .i64 (.ofNat 9), .int .i64 (.ofNat 12)]) = true := by kernel_rfl
theorem c222 : (tells X0 [.int .i64 (.ofNat 9), .int .i64 (.ofNat 13)]) = true := by kernel_rfl
theorem c223 : (tells X0 [.int .i64 (.ofNat 9), .int .i64 (.ofNat 14)]) = true := by kernel_rfl
theorem c224 : (tells X0 [.int .i64 (.ofNat 9), .int .i64 (.ofNat 15)]) = true := by kernel_rfl
theorem c225 : (tells X0 [.int .i64 (.ofNat 9), .int .i64 (.ofNat 16)]) = true := by kernel_rfl
theorem c226 : (tells X0 [.int .i64 (.ofNat 9), .int .i64 (.ofNat 17)]) = true := by kernel_rfl
theorem c227 : (tells X0 [.int .i64 (.ofNat 9), .int .i64 (.ofNat 18)]) = true := by kernel_rfl
theorem c228 : (tells X0 [.int .i64 (.ofNat 9), .int .i64 (.ofNat 19)]) = true := by kernel_rfl
theorem c229 : (tells X0 [.int .i64 (.ofNat 9), .int .i64 (.ofNat 20)]) = true := by kernel_rfl
theorem c230 : (tells X0 [.int .i64 (.ofNat 10), .int .i64 (.negSucc 1)]) = true := by kernel_rfl
theorem c231 : (tells X0 [.int .i64 (.ofNat 10), .int .i64 (.negSucc 0)]) = true := by kernel_rfl
theorem c232 : (tells X0 [.int .i64 (.ofNat 10), .int .i64 (.ofNat 0)]) = true := by kernel_rfl
theorem c233 : (tells X0 [.int .i64 (.ofNat 10), .int .i64 (.ofNat 1)]) = true := by kernel_rfl
theorem c234 : (tells X0 [.int .i64 (.ofNat 10), .int .i64 (.ofNat 2)]) = true := by kernel_rfl
theorem c235 : (tells X0 [.int .i64 (.ofNat 10), .int .i64 (.ofNat 3)]) = true := by kernel_rfl
theorem c236 : (tells X0 [.int .i64 (.ofNat 10), .int .i64 (.ofNat 4)]) = true := by kernel_rfl
theorem c237 : (tells X0 [.int .i64 (.ofNat 10), .int .i64 (.ofNat 5)]) = true := by kernel_rfl
theorem c238 : (tells X0 [.int .i64 (.ofNat 10), .int .i64 (.ofNat 6)]) = true := by kernel_rfl
theorem c239 : (tells X0 [.int .i64 (.ofNat 10), .int .i64 (.ofNat 7)]) = true := by kernel_rfl
theorem c240 : (tells X0 [.int .i64 (.ofNat 10), .int .i64 (.ofNat 8)]) = true := by kernel_rfl
theorem c241 : (tells X0 [.int .i64 (.ofNat 10), .int .i64 (.ofNat 9)]) = true := by kernel_rfl
theorem c242 : (tells X0 [.int .i64 (.ofNat 10), .int .i64 (.ofNat 10)]) = true := by kernel_rfl
end Go.Proofs.YtlhhimjohcdniaaGreat.lowerReturns
