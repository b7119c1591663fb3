/-
  The law LowerReturns: at some inputs, part 8. Nothing is asked.
-/
import Derived.Test.YtlhhimjohcdniaaGreatReturnsU
namespace Go.Proofs.YtlhhimjohcdniaaGreat.lowerReturns
open Go Go.Ag
set_option maxRecDepth 100000
theorem c189 : (tells X0 [.int .i64 (.ofNat 8), .int .i64 (.ofNat 3)]) = true := by kernel_rfl
theorem c190 : (tells X0 [.int .i64 (.ofNat 8), .int .i64 (.ofNat 4)]) = true := by kernel_rfl
theorem c191 : (tells X0 [.int .i64 (.ofNat 8), .int .i64 (.ofNat 5)]) = true := by kernel_rfl
theorem c192 : (tells X0 [.int .i64 (.ofNat 8), .int .i64 (.ofNat 6)]) = true := by kernel_rfl
theorem c193 : (tells X0 [.int .i64 (.ofNat 8), .int .i64 (.ofNat 7)]) = true := by kernel_rfl
theorem c194 : (tells X0 [.int .i64 (.ofNat 8), .int .i64 (.ofNat 8)]) = true := by kernel_rfl
theorem c195 : (tells X0 [.int .i64 (.ofNat 8), .int .i64 (.ofNat 9)]) = true := by kernel_rfl
theorem c196 : (tells X0 [.int .i64 (.ofNat 8), .int .i64 (.ofNat 10)]) = true := by kernel_rfl
theorem c197 : (tells X0 [.int .i64 (.ofNat 8), .int .i64 (.ofNat 11)]) = true := by kernel_rfl
theorem c198 : (tells X0 [.int .i64 (.ofNat 8), .int .i64 (.ofNat 12)]) = true := by kernel_rfl
theorem c199 : (tells X0 [.int .i64 (.ofNat 8), .int .i64 (.ofNat 13)]) = true := by kernel_rfl
theorem c200 : (tells X0 [.int .i64 (.ofNat 8), .int .i64 (.ofNat 14)]) = true := by kernel_rfl
theorem c201 : (tells X0 [.int .i64 (.ofNat 8), .int .i64 (.ofNat 15)]) = true := by kernel_rfl
theorem c202 : (tells X0 [.int .i64 (.ofNat 8), .int .i64 (.ofNat 16)]) = true := by kernel_rfl
theorem c203 : (tells X0 [.int .i64 (.ofNat 8), .int .i64 (.ofNat 17)]) = true := by kernel_rfl
theorem c204 : (tells X0 [.int .i64 (.ofNat 8), .int .i64 (.ofNat 18)]) = true := by kernel_rfl
theorem c205 : (tells X0 [.int .i64 (.ofNat 8), .int .i64 (.ofNat 19)]) = true := by kernel_rfl
theorem c206 : (tells X0 [.int .i64 (.ofNat 8), .int .i64 (.ofNat 20)]) = true := by kernel_rfl
theorem c207 : (tells X0 [.int .i64 (.ofNat 9), .int .i64 (.negSucc 1)]) = true := by kernel_rfl
theorem c208 : (tells X0 [.int .i64 (.ofNat 9), .int .i64 (.negSucc 0)]) = true := by kernel_rfl
theorem c209 : (tells X0 [.int .i64 (.ofNat 9), .int .i64 (.ofNat 0)]) = true := by kernel_rfl
theorem c210 : (tells X0 [.int .i64 (.ofNat 9), .int .i64 (.ofNat 1)]) = true := by kernel_rfl
theorem c211 : (tells X0 [.int .i64 (.ofNat 9), .int .i64 (.ofNat 2)]) = true := by kernel_rfl
theorem c212 : (tells X0 [.int .i64 (.ofNat 9), .int .i64 (.ofNat 3)]) = true := by kernel_rfl
theorem c213 : (tells X0 [.int .i64 (.ofNat 9), .int .i64 (.ofNat 4)]) = true := by kernel_rfl
theorem c214 : (tells X0 [.int .i64 (.ofNat 9), .int .i64 (.ofNat 5)]) = true := by kernel_rfl
theorem c215 : (tells X0 [.int .i64 (.ofNat 9), .int .i64 (.ofNat 6)]) = true := by kernel_rfl
end Go.Proofs.YtlhhimjohcdniaaGreat.lowerReturns
