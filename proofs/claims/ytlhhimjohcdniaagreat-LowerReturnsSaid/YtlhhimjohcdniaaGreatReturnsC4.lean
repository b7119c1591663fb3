/-
  The law LowerReturns: at some inputs, part 5. Nothing is asked.
-/
import Derived.Test.YtlhhimjohcdniaaGreatReturnsU
namespace Go.Proofs.YtlhhimjohcdniaaGreat.lowerReturns
open Go Go.Ag
set_option maxRecDepth 100000
theorem c108 : (tells X0 [.int .i64 (.ofNat 4), .int .i64 (.ofNat 14)]) = true := by kernel_rfl
theorem c109 : (tells X0 [.int .i64 (.ofNat 4), .int .i64 (.ofNat 15)]) = true := by kernel_rfl
theorem c110 : (tells X0 [.int .i64 (.ofNat 4), .int .i64 (.ofNat 16)]) = true := by kernel_rfl
theorem c111 : (tells X0 [.int .i64 (.ofNat 4), .int .i64 (.ofNat 17)]) = true := by kernel_rfl
theorem c112 : (tells X0 [.int .i64 (.ofNat 4), .int .i64 (.ofNat 18)]) = true := by kernel_rfl
theorem c113 : (tells X0 [.int .i64 (.ofNat 4), .int .i64 (.ofNat 19)]) = true := by kernel_rfl
theorem c114 : (tells X0 [.int .i64 (.ofNat 4), .int .i64 (.ofNat 20)]) = true := by kernel_rfl
theorem c115 : (tells X0 [.int .i64 (.ofNat 5), .int .i64 (.negSucc 1)]) = true := by kernel_rfl
theorem c116 : (tells X0 [.int .i64 (.ofNat 5), .int .i64 (.negSucc 0)]) = true := by kernel_rfl
theorem c117 : (tells X0 [.int .i64 (.ofNat 5), .int .i64 (.ofNat 0)]) = true := by kernel_rfl
theorem c118 : (tells X0 [.int .i64 (.ofNat 5), .int .i64 (.ofNat 1)]) = true := by kernel_rfl
theorem c119 : (tells X0 [.int .i64 (.ofNat 5), .int .i64 (.ofNat 2)]) = true := by kernel_rfl
theorem c120 : (tells X0 [.int .i64 (.ofNat 5), .int .i64 (.ofNat 3)]) = true := by kernel_rfl
theorem c121 : (tells X0 [.int .i64 (.ofNat 5), .int .i64 (.ofNat 4)]) = true := by kernel_rfl
theorem c122 : (tells X0 [.int .i64 (.ofNat 5), .int .i64 (.ofNat 5)]) = true := by kernel_rfl
theorem c123 : (tells X0 [.int .i64 (.ofNat 5), .int .i64 (.ofNat 6)]) = true := by kernel_rfl
theorem c124 : (tells X0 [.int .i64 (.ofNat 5), .int .i64 (.ofNat 7)]) = true := by kernel_rfl
theorem c125 : (tells X0 [.int .i64 (.ofNat 5), .int .i64 (.ofNat 8)]) = true := by kernel_rfl
theorem c126 : (tells X0 [.int .i64 (.ofNat 5), .int .i64 (.ofNat 9)]) = true := by kernel_rfl
theorem c127 : (tells X0 [.int .i64 (.ofNat 5), .int .i64 (.ofNat 10)]) = true := by kernel_rfl
theorem c128 : (tells X0 [.int .i64 (.ofNat 5), .int .i64 (.ofNat 11)]) = true := by kernel_rfl
theorem c129 : (tells X0 [.int .i64 (.ofNat 5), .int .i64 (.ofNat 12)]) = true := by kernel_rfl
theorem c130 : (tells X0 [.int .i64 (.ofNat 5), .int .i64 (.ofNat 13)]) = true := by kernel_rfl
theorem c131 : (tells X0 [.int .i64 (.ofNat 5), .int .i64 (.ofNat 14)]) = true := by kernel_rfl
theorem c132 : (tells X0 [.int .i64 (.ofNat 5), .int .i64 (.ofNat 15)]) = true := by kernel_rfl
theorem c133 : (tells X0 [.int .i64 (.ofNat 5), .int .i64 (.ofNat 16)]) = true := by kernel_rfl
theorem c134 : (tells X0 [.int .i64 (.ofNat 5), .int .i64 (.ofNat 17)]) = true := by kernel_rfl
end Go.Proofs.YtlhhimjohcdniaaGreat.lowerReturns
