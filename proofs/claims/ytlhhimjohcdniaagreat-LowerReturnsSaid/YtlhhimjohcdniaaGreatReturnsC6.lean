/-
  The law LowerReturns: at some inputs, part 7. Nothing is asked.
-/
import Derived.Test.YtlhhimjohcdniaaGreatReturnsU
namespace Go.Proofs.YtlhhimjohcdniaaGreat.lowerReturns
open Go Go.Ag
set_option maxRecDepth 100000
theorem c162 : (tells X0 [.int .i64 (.ofNat 7), .int .i64 (.negSucc 0)]) = true := by kernel_rfl
theorem c163 : (tells X0 [.int .i64 (.ofNat 7), .int .i64 (.ofNat 0)]) = true := by kernel_rfl
theorem c164 : (tells X0 [.int .i64 (.ofNat 7), .int .i64 (.ofNat 1)]) = true := by kernel_rfl
theorem c165 : (tells X0 [.int .i64 (.ofNat 7), .int .i64 (.ofNat 2)]) = true := by kernel_rfl
theorem c166 : (tells X0 [.int .i64 (.ofNat 7), .int .i64 (.ofNat 3)]) = true := by kernel_rfl
theorem c167 : (tells X0 [.int .i64 (.ofNat 7), .int .i64 (.ofNat 4)]) = true := by kernel_rfl
theorem c168 : (tells X0 [.int .i64 (.ofNat 7), .int .i64 (.ofNat 5)]) = true := by kernel_rfl
theorem c169 : (tells X0 [.int .i64 (.ofNat 7), .int .i64 (.ofNat 6)]) = true := by kernel_rfl
theorem c170 : (tells X0 [.int .i64 (.ofNat 7), .int .i64 (.ofNat 7)]) = true := by kernel_rfl
theorem c171 : (tells X0 [.int .i64 (.ofNat 7), .int .i64 (.ofNat 8)]) = true := by kernel_rfl
theorem c172 : (tells X0 [.int .i64 (.ofNat 7), .int .i64 (.ofNat 9)]) = true := by kernel_rfl
theorem c173 : (tells X0 [.int .i64 (.ofNat 7), .int .i64 (.ofNat 10)]) = true := by kernel_rfl
theorem c174 : (tells X0 [.int .i64 (.ofNat 7), .int .i64 (.ofNat 11)]) = true := by kernel_rfl
theorem c175 : (tells X0 [.int .i64 (.ofNat 7), .int .i64 (.ofNat 12)]) = true := by kernel_rfl
theorem c176 : (tells X0 [.int .i64 (.ofNat 7), .int .i64 (.ofNat 13)]) = true := by kernel_rfl
theorem c177 : (tells X0 [.int .i64 (.ofNat 7), .int .i64 (.ofNat 14)]) = true := by kernel_rfl
theorem c178 : (tells X0 [.int .i64 (.ofNat 7), .int .i64 (.ofNat 15)]) = true := by kernel_rfl
theorem c179 : (tells X0 [.int .i64 (.ofNat 7), .int .i64 (.ofNat 16)]) = true := by kernel_rfl
theorem c180 : (tells X0 [.int .i64 (.ofNat 7), .int .i64 (.ofNat 17)]) = true := by kernel_rfl
theorem c181 : (tells X0 [.int .i64 (.ofNat 7), .int .i64 (.ofNat 18)]) = true := by kernel_rfl
theorem c182 : (tells X0 [.int .i64 (.ofNat 7), .int .i64 (.ofNat 19)]) = true := by kernel_rfl
theorem c183 : (tells X0 [.int .i64 (.ofNat 7), .int .i64 (.ofNat 20)]) = true := by kernel_rfl
theorem c184 : (tells X0 [.int .i64 (.ofNat 8), .int .i64 (.negSucc 1)]) = true := by kernel_rfl
theorem c185 : (tells X0 [.int .i64 (.ofNat 8), .int .i64 (.negSucc 0)]) = true := by kernel_rfl
theorem c186 : (tells X0 [.int .i64 (.ofNat 8), .int .i64 (.ofNat 0)]) = true := by kernel_rfl
theorem c187 : (tells X0 [.int .i64 (.ofNat 8), .int .i64 (.ofNat 1)]) = true := by kernel_rfl
theorem c188 : (tells X0 [.int .i64 (.ofNat 8), .int .i64 (.ofNat 2)]) = true := by kernel_rfl
end Go.Proofs.YtlhhimjohcdniaaGreat.lowerReturns
