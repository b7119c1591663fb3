/-
  The law LowerReturns: at some inputs, part 3. Nothing is asked.
-/
import Derived.Test.YtlhhimjohcdniaaGreatReturnsU
namespace Go.Proofs.YtlhhimjohcdniaaGreat.lowerReturns
open Go Go.Ag
set_option maxRecDepth 100000
theorem c54 : (tells X0 [.int .i64 (.ofNat 2), .int .i64 (.ofNat 6)]) = true := by kernel_rfl
theorem c55 : (tells X0 [.int .i64 (.ofNat 2), .int .i64 (.ofNat 7)]) = true := by kernel_rfl
theorem c56 : (tells X0 [.int .i64 (.ofNat 2), .int .i64 (.ofNat 8)]) = true := by kernel_rfl
theorem c57 : (tells X0 [.int .i64 (.ofNat 2), .int .i64 (.ofNat 9)]) = true := by kernel_rfl
theorem c58 : (tells X0 [.int .i64 (.ofNat 2), .int .i64 (.ofNat 10)]) = true := by kernel_rfl
theorem c59 : (tells X0 [.int .i64 (.ofNat 2), .int .i64 (.ofNat 11)]) = true := by kernel_rfl
theorem c60 : (tells X0 [.int .i64 (.ofNat 2), .int .i64 (.ofNat 12)]) = true := by kernel_rfl
theorem c61 : (tells X0 [.int .i64 (.ofNat 2), .int .i64 (.ofNat 13)]) = true := by kernel_rfl
theorem c62 : (tells X0 [.int .i64 (.ofNat 2), .int .i64 (.ofNat 14)]) = true := by kernel_rfl
theorem c63 : (tells X0 [.int .i64 (.ofNat 2), .int .i64 (.ofNat 15)]) = true := by kernel_rfl
theorem c64 : (tells X0 [.int .i64 (.ofNat 2), .int .i64 (.ofNat 16)]) = true := by kernel_rfl
theorem c65 : (tells X0 [.int .i64 (.ofNat 2), .int .i64 (.ofNat 17)]) = true := by kernel_rfl
theorem c66 : (tells X0 [.int .i64 (.ofNat 2), .int .i64 (.ofNat 18)]) = true := by kernel_rfl
theorem c67 : (tells X0 [.int .i64 (.ofNat 2), .int .i64 (.ofNat 19)]) = true := by kernel_rfl
theorem c68 : (tells X0 [.int .i64 (.ofNat 2), .int .i64 (.ofNat 20)]) = true := by kernel_rfl
theorem c69 : (tells X0 [.int .i64 (.ofNat 3), .int .i64 (.negSucc 1)]) = true := by kernel_rfl
theorem c70 : (tells X0 [.int .i64 (.ofNat 3), .int .i64 (.negSucc 0)]) = true := by kernel_rfl
theorem c71 : (tells X0 [.int .i64 (.ofNat 3), .int .i64 (.ofNat 0)]) = true := by kernel_rfl
theorem c72 : (tells X0 [.int .i64 (.ofNat 3), .int .i64 (.ofNat 1)]) = true := by kernel_rfl
theorem c73 : (tells X0 [.int .i64 (.ofNat 3), .int .i64 (.ofNat 2)]) = true := by kernel_rfl
theorem c74 : (tells X0 [.int .i64 (.ofNat 3), .int .i64 (.ofNat 3)]) = true := by kernel_rfl
theorem c75 : (tells X0 [.int .i64 (.ofNat 3), .int .i64 (.ofNat 4)]) = true := by kernel_rfl
theorem c76 : (tells X0 [.int .i64 (.ofNat 3), .int .i64 (.ofNat 5)]) = true := by kernel_rfl
theorem c77 : (tells X0 [.int .i64 (.ofNat 3), .int .i64 (.ofNat 6)]) = true := by kernel_rfl
theorem c78 : (tells X0 [.int .i64 (.ofNat 3), .int .i64 (.ofNat 7)]) = true := by kernel_rfl
theorem c79 : (tells X0 [.int .i64 (.ofNat 3), .int .i64 (.ofNat 8)]) = true := by kernel_rfl
theorem c80 : (tells X0 [.int .i64 (.ofNat 3), .int .i64 (.ofNat 9)]) = true := by kernel_rfl
end Go.Proofs.YtlhhimjohcdniaaGreat.lowerReturns
