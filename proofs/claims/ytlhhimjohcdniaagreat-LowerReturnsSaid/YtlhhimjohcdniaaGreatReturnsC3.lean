/-
  The law LowerReturns: at some inputs, part 4. Nothing is asked.
-/
import Derived.Test.YtlhhimjohcdniaaGreatReturnsU
namespace Go.Proofs.YtlhhimjohcdniaaGreat.lowerReturns
open Go Go.Ag
set_option maxRecDepth 100000
theorem c81 : (tells X0 [.int .i64 (.ofNat 3), .int .i64 (.ofNat 10)]) = true := by kernel_rfl
theorem c82 : (tells X0 [.int .i64 (.ofNat 3), .int .i64 (.ofNat 11)]) = true := by kernel_rfl
theorem c83 : (tells X0 [.int .i64 (.ofNat 3), .int .i64 (.ofNat 12)]) = true := by kernel_rfl
theorem c84 : (tells X0 [.int .i64 (.ofNat 3), .int .i64 (.ofNat 13)]) = true := by kernel_rfl
theorem c85 : (tells X0 [.int .i64 (.ofNat 3), .int .i64 (.ofNat 14)]) = true := by kernel_rfl
theorem c86 : (tells X0 [.int .i64 (.ofNat 3), .int .i64 (.ofNat 15)]) = true := by kernel_rfl
theorem c87 : (tells X0 [.int .i64 (.ofNat 3), .int .i64 (.ofNat 16)]) = true := by kernel_rfl
theorem c88 : (tells X0 [.int .i64 (.ofNat 3), .int .i64 (.ofNat 17)]) = true := by kernel_rfl
theorem c89 : (tells X0 [.int .i64 (.ofNat 3), .int .i64 (.ofNat 18)]) = true := by kernel_rfl
theorem c90 : (tells X0 [.int .i64 (.ofNat 3), .int .i64 (.ofNat 19)]) = true := by kernel_rfl
theorem c91 : (tells X0 [.int .i64 (.ofNat 3), .int .i64 (.ofNat 20)]) = true := by kernel_rfl
theorem c92 : (tells X0 [.int .i64 (.ofNat 4), .int .i64 (.negSucc 1)]) = true := by kernel_rfl
theorem c93 : (tells X0 [.int .i64 (.ofNat 4), .int .i64 (.negSucc 0)]) = true := by kernel_rfl
theorem c94 : (tells X0 [.int .i64 (.ofNat 4), .int .i64 (.ofNat 0)]) = true := by kernel_rfl
theorem c95 : (tells X0 [.int .i64 (.ofNat 4), .int .i64 (.ofNat 1)]) = true := by kernel_rfl
theorem c96 : (tells X0 [.int .i64 (.ofNat 4), .int .i64 (.ofNat 2)]) = true := by kernel_rfl
theorem c97 : (tells X0 [.int .i64 (.ofNat 4), .int .i64 (.ofNat 3)]) = true := by kernel_rfl
theorem c98 : (tells X0 [.int .i64 (.ofNat 4), .int .i64 (.ofNat 4)]) = true := by kernel_rfl
theorem c99 : (tells X0 [.int .i64 (.ofNat 4), .int .i64 (.ofNat 5)]) = true := by kernel_rfl
theorem c100 : (tells X0 [.int .i64 (.ofNat 4), .int .i64 (.ofNat 6)]) = true := by kernel_rfl
theorem c101 : (tells X0 [.int .i64 (.ofNat 4), .int .i64 (.ofNat 7)]) = true := by kernel_rfl
theorem c102 : (tells X0 [.int .i64 (.ofNat 4), .int .i64 (.ofNat 8)]) = true := by kernel_rfl
theorem c103 : (tells X0 [.int .i64 (.ofNat 4), .int .i64 (.ofNat 9)]) = true := by kernel_rfl
theorem c104 : (tells X0 [.int .i64 (.ofNat 4), .int .i64 (.ofNat 10)]) = true := by kernel_rfl
theorem c105 : (tells X0 [.int .i64 (.ofNat 4), .int .i64 (.ofNat 11)]) = true := by kernel_rfl
theorem c106 : (tells X0 [.int .i64 (.ofNat 4), .int .i64 (.ofNat 12)]) = true := by kernel_rfl
theorem c107 : (tells X0 [.int .i64 (.ofNat 4), .int .i64 (.ofNat 13)]) = true := by kernel_rfl
end Go.Proofs.YtlhhimjohcdniaaGreat.lowerReturns
