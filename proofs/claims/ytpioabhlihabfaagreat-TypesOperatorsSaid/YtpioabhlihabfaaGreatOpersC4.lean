/-
  The law TypesOperators at some numbers, part 4. Nothing is asked.
-/
import Derived.Test.YtpioabhlihabfaaGreatOpersT
namespace Go.Proofs.YtpioabhlihabfaaGreat.typesOperators
open Go Go.Ag
set_option maxRecDepth 100000
theorem c27 : (tells [.int .i64 (.ofNat 6), .int .i64 (.ofNat 3), .int .i64 (.ofNat 0)] && (tells [.int .i64 (.ofNat 6), .int .i64 (.ofNat 3), .int .i64 (.ofNat 1)] && (tells [.int .i64 (.ofNat 6), .int .i64 (.ofNat 3), .int .i64 (.ofNat 2)] && (tells [.int .i64 (.ofNat 6), .int .i64 (.ofNat 3), .int .i64 (.ofNat 3)])))) = true := by kernel_rfl
theorem c28 : (tells [.int .i64 (.ofNat 7), .int .i64 (.ofNat 0), .int .i64 (.ofNat 0)] && (tells [.int .i64 (.ofNat 7), .int .i64 (.ofNat 0), .int .i64 (.ofNat 1)] && (tells [.int .i64 (.ofNat 7), .int .i64 (.ofNat 0), .int .i64 (.ofNat 2)] && (tells [.int .i64 (.ofNat 7), .int .i64 (.ofNat 0), .int .i64 (.ofNat 3)])))) = true := by kernel_rfl
theorem c29 : (tells [.int .i64 (.ofNat 7), .int .i64 (.ofNat 1), .int .i64 (.ofNat 0)] && (tells [.int .i64 (.ofNat 7), .int .i64 (.ofNat 1), .int .i64 (.ofNat 1)] && (tells [.int .i64 (.ofNat 7), .int .i64 (.ofNat 1), .int .i64 (.ofNat 2)] && (tells [.int .i64 (.ofNat 7), .int .i64 (.ofNat 1), .int .i64 (.ofNat 3)])))) = true := by kernel_rfl
theorem c30 : (tells [.int .i64 (.ofNat 7), .int .i64 (.ofNat 2), .int .i64 (.ofNat 0)] && (tells [.int .i64 (.ofNat 7), .int .i64 (.ofNat 2), .int .i64 (.ofNat 1)] && (tells [.int .i64 (.ofNat 7), .int .i64 (.ofNat 2), .int .i64 (.ofNat 2)] && (tells [.int .i64 (.ofNat 7), .int .i64 (.ofNat 2), .int .i64 (.ofNat 3)])))) = true := by kernel_rfl
theorem c31 : (tells [.int .i64 (.ofNat 7), .int .i64 (.ofNat 3), .int .i64 (.ofNat 0)] && (tells [.int .i64 (.ofNat 7), .int .i64 (.ofNat 3), .int .i64 (.ofNat 1)] && (tells [.int .i64 (.ofNat 7), .int .i64 (.ofNat 3), .int .i64 (.ofNat 2)] && (tells [.int .i64 (.ofNat 7), .int .i64 (.ofNat 3), .int .i64 (.ofNat 3)])))) = true := by kernel_rfl
theorem c32 : (tells [.int .i64 (.ofNat 8), .int .i64 (.ofNat 0), .int .i64 (.ofNat 0)] && (tells [.int .i64 (.ofNat 8), .int .i64 (.ofNat 0), .int .i64 (.ofNat 1)] && (tells [.int .i64 (.ofNat 8), .int .i64 (.ofNat 0), .int .i64 (.ofNat 2)] && (tells [.int .i64 (.ofNat 8), .int .i64 (.ofNat 0), .int .i64 (.ofNat 3)])))) = true := by kernel_rfl
theorem c33 : (tells [.int .i64 (.ofNat 8), .int .i64 (.ofNat 1), .int .i64 (.ofNat 0)] && (tells [.int .i64 (.ofNat 8), .int .i64 (.ofNat 1), .int .i64 (.ofNat 1)] && (tells [.int .i64 (.ofNat 8), .int .i64 (.ofNat 1), .int .i64 (.ofNat 2)] && (tells [.int .i64 (.ofNat 8), .int .i64 (.ofNat 1), .int .i64 (.ofNat 3)])))) = true := by kernel_rfl
theorem c34 : (tells [.int .i64 (.ofNat 8), .int .i64 (.ofNat 2), .int .i64 (.ofNat 0)] && (tells [.int .i64 (.ofNat 8), .int .i64 (.ofNat 2), .int .i64 (.ofNat 1)] && (tells [.int .i64 (.ofNat 8), .int .i64 (.ofNat 2), .int .i64 (.ofNat 2)] && (tells [.int .i64 (.ofNat 8), .int .i64 (.ofNat 2), .int .i64 (.ofNat 3)])))) = true := by kernel_rfl
theorem c35 : (tells [.int .i64 (.ofNat 8), .int .i64 (.ofNat 3), .int .i64 (.ofNat 0)] && (tells [.int .i64 (.ofNat 8), .int .i64 (.ofNat 3), .int .i64 (.ofNat 1)] && (tells [.int .i64 (.ofNat 8), .int .i64 (.ofNat 3), .int .i64 (.ofNat 2)] && (tells [.int .i64 (.ofNat 8), .int .i64 (.ofNat 3), .int .i64 (.ofNat 3)])))) = true := by kernel_rfl
end Go.Proofs.YtpioabhlihabfaaGreat.typesOperators
