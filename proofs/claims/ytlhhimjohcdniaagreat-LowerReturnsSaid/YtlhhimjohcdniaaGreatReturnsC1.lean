/-
  The law LowerReturns: at some inputs, part 2. Nothing is asked.
-/
import Derived.Test.YtlhhimjohcdniaaGreatReturnsU
namespace Go.Proofs.YtlhhimjohcdniaaGreat.lowerReturns
open Go Go.Ag
set_option maxRecDepth 100000
theorem c27 : (tells X0 [.int .i64 (.ofNat 1), .int .i64 (.ofNat 2)]) = true := by kernel_rfl
theorem c28 : (tells X0 [.int .i64 (.ofNat 1), .int .i64 (.ofNat 3)]) = true := by kernel_rfl
theorem c29 : (tells X0 [.int .i64 (.ofNat 1), .int .i64 (.ofNat 4)]) = true := by kernel_rfl
theorem c30 : (tells X0 [.int .i64 (.ofNat 1), .int .i64 (.ofNat 5)]) = true := by kernel_rfl
theorem c31 : (tells X0 [.int .i64 (.ofNat 1), .int .i64 (.ofNat 6)]) = true := by kernel_rfl
theorem c32 : (tells X0 [.int .i64 (.ofNat 1), .int .i64 (.ofNat 7)]) = true := by kernel_rfl
theorem c33 : (tells X0 [.int .i64 (.ofNat 1), .int .i64 (.ofNat 8)]) = true := by kernel_rfl
theorem c34 : (tells X0 [.int .i64 (.ofNat 1), .int .i64 (.ofNat 9)]) = true := by kernel_rfl
theorem c35 : (tells X0 [.int .i64 (.ofNat 1), .int .i64 (.ofNat 10)]) = true := by kernel_rfl
theorem c36 : (tells X0 [.int .i64 (.ofNat 1), .int .i64 (.ofNat 11)]) = true := by kernel_rfl
theorem c37 : (tells X0 [.int .i64 (.ofNat 1), .int .i64 (.ofNat 12)]) = true := by kernel_rfl
theorem c38 : (tells X0 [.int .i64 (.ofNat 1), .int .i64 (.ofNat 13)]) = true := by kernel_rfl
theorem c39 : (tells X0 [.int .i64 (.ofNat 1), .int .i64 (.ofNat 14)]) = true := by kernel_rfl
theorem c40 : (tells X0 [.int .i64 (.ofNat 1), .int .i64 (.ofNat 15)]) = true := by kernel_rfl
theorem c41 : (tells X0 [.int .i64 (.ofNat 1), .int .i64 (.ofNat 16)]) = true := by kernel_rfl
theorem c42 : (tells X0 [.int .i64 (.ofNat 1), .int .i64 (.ofNat 17)]) = true := by kernel_rfl
theorem c43 : (tells X0 [.int .i64 (.ofNat 1), .int .i64 (.ofNat 18)]) = true := by kernel_rfl
theorem c44 : (tells X0 [.int .i64 (.ofNat 1), .int .i64 (.ofNat 19)]) = true := by kernel_rfl
theorem c45 : (tells X0 [.int .i64 (.ofNat 1), .int .i64 (.ofNat 20)]) = true := by kernel_rfl
theorem c46 : (tells X0 [.int .i64 (.ofNat 2), .int .i64 (.negSucc 1)]) = true := by kernel_rfl
theorem c47 : (tells X0 [.int .i64 (.ofNat 2), .int .i64 (.negSucc 0)]) = true := by kernel_rfl
theorem c48 : (tells X0 [.int .i64 (.ofNat 2), .int .i64 (.ofNat 0)]) = true := by kernel_rfl
theorem c49 : (tells X0 [.int .i64 (.ofNat 2), .int .i64 (.ofNat 1)]) = true := by kernel_rfl
theorem c50 : (tells X0 [.int .i64 (.ofNat 2), .int .i64 (.ofNat 2)]) = true := by kernel_rfl
theorem c51 : (tells X0 [.int .i64 (.ofNat 2), .int .i64 (.ofNat 3)]) = true := by kernel_rfl
theorem c52 : (tells X0 [.int .i64 (.ofNat 2), .int .i64 (.ofNat 4)]) = true := by kernel_rfl
theorem c53 : (tells X0 [.int .i64 (.ofNat 2), .int .i64 (.ofNat 5)]) = true := by kernel_rfl
end Go.Proofs.YtlhhimjohcdniaaGreat.lowerReturns
