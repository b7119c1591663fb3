/-
  The law LowerReturns: at some inputs, part 15 (those that run longest). Nothing is asked.
-/
import Derived.Test.YtlhhimjohcdniaaGreatReturnsU
namespace Go.Proofs.YtlhhimjohcdniaaGreat.lowerReturns
open Go Go.Ag
set_option maxRecDepth 100000
noncomputable def calls4 (X : List Use) : FF := Kx Tryz.prog tab gl2 [91, 93] X 200 500
noncomputable def tells4 (X : List Use) (args : List Value) : Bool := tellsTrue ((fnG Tryz.prog tab 6).f (calls4 X) args nothing)
theorem c345 : (tells4 X0 [.int .i64 (.ofNat 15), .int .i64 (.negSucc 1)]) = true := by kernel_rfl
theorem c346 : (tells4 X0 [.int .i64 (.ofNat 15), .int .i64 (.negSucc 0)]) = true := by kernel_rfl
theorem c362 : (tells4 X0 [.int .i64 (.ofNat 15), .int .i64 (.ofNat 15)]) = true := by kernel_rfl
theorem c363 : (tells4 X0 [.int .i64 (.ofNat 15), .int .i64 (.ofNat 16)]) = true := by kernel_rfl
theorem c364 : (tells4 X0 [.int .i64 (.ofNat 15), .int .i64 (.ofNat 17)]) = true := by kernel_rfl
theorem c365 : (tells4 X0 [.int .i64 (.ofNat 15), .int .i64 (.ofNat 18)]) = true := by kernel_rfl
theorem c366 : (tells4 X0 [.int .i64 (.ofNat 15), .int .i64 (.ofNat 19)]) = true := by kernel_rfl
theorem c367 : (tells4 X0 [.int .i64 (.ofNat 15), .int .i64 (.ofNat 20)]) = true := by kernel_rfl
end Go.Proofs.YtlhhimjohcdniaaGreat.lowerReturns
