/-
  The law LowerReturns: at some inputs, part 6. Nothing is asked.
-/
import Derived.Test.YtlhhimjohcdniaaGreatReturnsU
namespace Go.Proofs.YtlhhimjohcdniaaGreat.lowerReturns
open Go Go.Ag
set_option maxRecDepth 100000
theorem c135 : (tells X0 [.int .i64 (.ofNat 5), .int .i64 (.ofNat 18)]) = true := by kernel_rfl
theorem c136 : (tells X0 [.int .i64 (.ofNat 5), .int .i64 (.ofNat 19)]) = true := by kernel_rfl
theorem c137 : (tells X0 [.int .i64 (.ofNat 5), .int .i64 (.ofNat 20)]) = true := by kernel_rfl
theorem c138 : (tells X0 [.int .i64 (.ofNat 6), .int .i64 (.negSucc 1)]) = true := by kernel_rfl
theorem c139 : (tells X0 [.int .i64 (.ofNat 6), .int .i64 (.negSucc 0)]) = true := by kernel_rfl
theorem c140 : (tells X0 [.int .i64 (.ofNat 6), .int .i64 (.ofNat 0)]) = true := by kernel_rfl
theorem c141 : (tells X0 [.int .i64 (.ofNat 6), .int .i64 (.ofNat 1)]) = true := by kernel_rfl
theorem c142 : (tells X0 [.int .i64 (.ofNat 6), .int .i64 (.ofNat 2)]) = true := by kernel_rfl
theorem c143 : (tells X0 [.int .i64 (.ofNat 6), .int .i64 (.ofNat 3)]) = true := by kernel_rfl
theorem c144 : (tells X0 [.int .i64 (.ofNat 6), .int .i64 (.ofNat 4)]) = true := by kernel_rfl
theorem c145 : (tells X0 [.int .i64 (.ofNat 6), .int .i64 (.ofNat 5)]) = true := by kernel_rfl
theorem c146 : (tells X0 [.int .i64 (.ofNat 6), .int .i64 (.ofNat 6)]) = true := by kernel_rfl
theorem c147 : (tells X0 [.int .i64 (.ofNat 6), .int .i64 (.ofNat 7)]) = true := by kernel_rfl
theorem c148 : (tells X0 [.int .i64 (.ofNat 6), .int .i64 (.ofNat 8)]) = true := by kernel_rfl
theorem c149 : (tells X0 [.int .i64 (.ofNat 6), .int .i64 (.ofNat 9)]) = true := by kernel_rfl
theorem c150 : (tells X0 [.int .i64 (.ofNat 6), .int .i64 (.ofNat 10)]) = true := by kernel_rfl
theorem c151 : (tells X0 [.int .i64 (.ofNat 6), .int .i64 (.ofNat 11)]) = true := by kernel_rfl
theorem c152 : (tells X0 [.int .i64 (.ofNat 6), .int .i64 (.ofNat 12)]) = true := by kernel_rfl
theorem c153 : (tells X0 [.int .i64 (.ofNat 6), .int .i64 (.ofNat 13)]) = true := by kernel_rfl
theorem c154 : (tells X0 [.int .i64 (.ofNat 6), .int .i64 (.ofNat 14)]) = true := by kernel_rfl
theorem c155 : (tells X0 [.int .i64 (.ofNat 6), .int .i64 (.ofNat 15)]) = true := by kernel_rfl
theorem c156 : (tells X0 [.int .i64 (.ofNat 6), .int .i64 (.ofNat 16)]) = true := by kernel_rfl
theorem c157 : (tells X0 [.int .i64 (.ofNat 6), .int .i64 (.ofNat 17)]) = true := by kernel_rfl
theorem c158 : (tells X0 [.int .i64 (.ofNat 6), .int .i64 (.ofNat 18)]) = true := by kernel_rfl
theorem c159 : (tells X0 [.int .i64 (.ofNat 6), .int .i64 (.ofNat 19)]) = true := by kernel_rfl
theorem c160 : (tells X0 [.int .i64 (.ofNat 6), .int .i64 (.ofNat 20)]) = true := by kernel_rfl
theorem c161 : (tells X0 [.int .i64 (.ofNat 7), .int .i64 (.negSucc 1)]) = true := by kernel_rfl
end Go.Proofs.YtlhhimjohcdniaaGreat.lowerReturns
