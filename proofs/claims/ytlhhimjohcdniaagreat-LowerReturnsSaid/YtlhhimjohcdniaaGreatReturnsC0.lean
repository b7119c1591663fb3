/-
  The law LowerReturns: at some inputs, part 1. Nothing is asked.
-/
import Derived.Test.YtlhhimjohcdniaaGreatReturnsU
namespace Go.Proofs.YtlhhimjohcdniaaGreat.lowerReturns
open Go Go.Ag
set_option maxRecDepth 100000
theorem c0 : (tells X0 [.int .i64 (.ofNat 0), .int .i64 (.negSucc 1)]) = true := by kernel_rfl
theorem c1 : (tells X0 [.int .i64 (.ofNat 0), .int .i64 (.negSucc 0)]) = true := by kernel_rfl
theorem c2 : (tells X0 [.int .i64 (.ofNat 0), .int .i64 (.ofNat 0)]) = true := by kernel_rfl
theorem c3 : (tells X0 [.int .i64 (.ofNat 0), .int .i64 (.ofNat 1)]) = true := by kernel_rfl
theorem c4 : (tells X0 [.int .i64 (.ofNat 0), .int .i64 (.ofNat 2)]) = true := by kernel_rfl
theorem c5 : (tells X0 [.int .i64 (.ofNat 0), .int .i64 (.ofNat 3)]) = true := by kernel_rfl
theorem c6 : (tells X0 [.int .i64 (.ofNat 0), .int .i64 (.ofNat 4)]) = true := by kernel_rfl
theorem c7 : (tells X0 [.int .i64 (.ofNat 0), .int .i64 (.ofNat 5)]) = true := by kernel_rfl
theorem c8 : (tells X0 [.int .i64 (.ofNat 0), .int .i64 (.ofNat 6)]) = true := by kernel_rfl
theorem c9 : (tells X0 [.int .i64 (.ofNat 0), .int .i64 (.ofNat 7)]) = true := by kernel_rfl
theorem c10 : (tells X0 [.int .i64 (.ofNat 0), .int .i64 (.ofNat 8)]) = true := by kernel_rfl
theorem c11 : (tells X0 [.int .i64 (.ofNat 0), .int .i64 (.ofNat 9)]) = true := by kernel_rfl
theorem c12 : (tells X0 [.int .i64 (.ofNat 0), .int .i64 (.ofNat 10)]) = true := by kernel_rfl
theorem c13 : (tells X0 [.int .i64 (.ofNat 0), .int .i64 (.ofNat 11)]) = true := by kernel_rfl
theorem c14 : (tells X0 [.int .i64 (.ofNat 0), .int .i64 (.ofNat 12)]) = true := by kernel_rfl
theorem c15 : (tells X0 [.int .i64 (.ofNat 0), .int .i64 (.ofNat 13)]) = true := by kernel_rfl
theorem c16 : (tells X0 [.int .i64 (.ofNat 0), .int .i64 (.ofNat 14)]) = true := by kernel_rfl
theorem c17 : (tells X0 [.int .i64 (.ofNat 0), .int .i64 (.ofNat 15)]) = true := by kernel_rfl
theorem c18 : (tells X0 [.int .i64 (.ofNat 0), .int .i64 (.ofNat 16)]) = true := by kernel_rfl
theorem c19 : (tells X0 [.int .i64 (.ofNat 0), .int .i64 (.ofNat 17)]) = true := by kernel_rfl
theorem c20 : (tells X0 [.int .i64 (.ofNat 0), .int .i64 (.ofNat 18)]) = true := by kernel_rfl
theorem c21 : (tells X0 [.int .i64 (.ofNat 0), .int .i64 (.ofNat 19)]) = true := by kernel_rfl
theorem c22 : (tells X0 [.int .i64 (.ofNat 0), .int .i64 (.ofNat 20)]) = true := by kernel_rfl
theorem c23 : (tells X0 [.int .i64 (.ofNat 1), .int .i64 (.negSucc 1)]) = true := by kernel_rfl
theorem c24 : (tells X0 [.int .i64 (.ofNat 1), .int .i64 (.negSucc 0)]) = true := by kernel_rfl
theorem c25 : (tells X0 [.int .i64 (.ofNat 1), .int .i64 (.ofNat 0)]) = true := by kernel_rfl
theorem c26 : (tells X0 [.int .i64 (.ofNat 1), .int .i64 (.ofNat 1)]) = true := by kernel_rfl
end Go.Proofs.YtlhhimjohcdniaaGreat.lowerReturns
