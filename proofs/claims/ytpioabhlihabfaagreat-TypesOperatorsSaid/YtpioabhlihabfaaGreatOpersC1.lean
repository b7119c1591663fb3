/-
  The law TypesOperators at some numbers, part 1. Nothing is asked.
-/
import Derived.Test.YtpioabhlihabfaaGreatOpersT
namespace Go.Proofs.YtpioabhlihabfaaGreat.typesOperators
open Go Go.Ag
set_option maxRecDepth 100000
theorem c0 : (tells [.int .i64 (.ofNat 0), .int .i64 (.ofNat 0), .int .i64 (.ofNat 0)] && (tells [.int .i64 (.ofNat 0), .int .i64 (.ofNat 0), .int .i64 (.ofNat 1)] && (tells [.int .i64 (.ofNat 0), .int .i64 (.ofNat 0), .int .i64 (.ofNat 2)] && (tells [.int .i64 (.ofNat 0), .int .i64 (.ofNat 0), .int .i64 (.ofNat 3)])))) = true := by kernel_rfl
theorem c1 : (tells [.int .i64 (.ofNat 0), .int .i64 (.ofNat 1), .int .i64 (.ofNat 0)] && (tells [.int .i64 (.ofNat 0), .int .i64 (.ofNat 1), .int .i64 (.ofNat 1)] && (tells [.int .i64 (.ofNat 0), .int .i64 (.ofNat 1), .int .i64 (.ofNat 2)] && (tells [.int .i64 (.ofNat 0), .int .i64 (.ofNat 1), .int .i64 (.ofNat 3)])))) = true := by kernel_rfl
theorem c2 : (tells [.int .i64 (.ofNat 0), .int .i64 (.ofNat 2), .int .i64 (.ofNat 0)] && (tells [.int .i64 (.ofNat 0), .int .i64 (.ofNat 2), .int .i64 (.ofNat 1)] && (tells [.int .i64 (.ofNat 0), .int .i64 (.ofNat 2), .int .i64 (.ofNat 2)] && (tells [.int .i64 (.ofNat 0), .int .i64 (.ofNat 2), .int .i64 (.ofNat 3)])))) = true := by kernel_rfl
theorem c3 : (tells [.int .i64 (.ofNat 0), .int .i64 (.ofNat 3), .int .i64 (.ofNat 0)] && (tells [.int .i64 (.ofNat 0), .int .i64 (.ofNat 3), .int .i64 (.ofNat 1)] && (tells [.int .i64 (.ofNat 0), .int .i64 (.ofNat 3), .int .i64 (.ofNat 2)] && (tells [.int .i64 (.ofNat 0), .int .i64 (.ofNat 3), .int .i64 (.ofNat 3)])))) = true := by kernel_rfl
theorem c4 : (tells [.int .i64 (.ofNat 1), .int .i64 (.ofNat 0), .int .i64 (.ofNat 0)] && (tells [.int .i64 (.ofNat 1), .int .i64 (.ofNat 0), .int .i64 (.ofNat 1)] && (tells [.int .i64 (.ofNat 1), .int .i64 (.ofNat 0), .int .i64 (.ofNat 2)] && (tells [.int .i64 (.ofNat 1), .int .i64 (.ofNat 0), .int .i64 (.ofNat 3)])))) = true := by kernel_rfl
theorem c5 : (tells [.int .i64 (.ofNat 1), .int .i64 (.ofNat 1), .int .i64 (.ofNat 0)] && (tells [.int .i64 (.ofNat 1), .int .i64 (.ofNat 1), .int .i64 (.ofNat 1)] && (tells [.int .i64 (.ofNat 1), .int .i64 (.ofNat 1), .int .i64 (.ofNat 2)] && (tells [.int .i64 (.ofNat 1), .int .i64 (.ofNat 1), .int .i64 (.ofNat 3)])))) = true := by kernel_rfl
theorem c6 : (tells [.int .i64 (.ofNat 1), .int .i64 (.ofNat 2), .int .i64 (.ofNat 0)] && (tells [.int .i64 (.ofNat 1), .int .i64 (.ofNat 2), .int .i64 (.ofNat 1)] && (tells [.int .i64 (.ofNat 1), .int .i64 (.ofNat 2), .int .i64 (.ofNat 2)] && (tells [.int .i64 (.ofNat 1), .int .i64 (.ofNat 2), .int .i64 (.ofNat 3)])))) = true := by kernel_rfl
theorem c7 : (tells [.int .i64 (.ofNat 1), .int .i64 (.ofNat 3), .int .i64 (.ofNat 0)] && (tells [.int .i64 (.ofNat 1), .int .i64 (.ofNat 3), .int .i64 (.ofNat 1)] && (tells [.int .i64 (.ofNat 1), .int .i64 (.ofNat 3), .int .i64 (.ofNat 2)] && (tells [.int .i64 (.ofNat 1), .int .i64 (.ofNat 3), .int .i64 (.ofNat 3)])))) = true := by kernel_rfl
theorem c8 : (tells [.int .i64 (.ofNat 2), .int .i64 (.ofNat 0), .int .i64 (.ofNat 0)] && (tells [.int .i64 (.ofNat 2), .int .i64 (.ofNat 0), .int .i64 (.ofNat 1)] && (tells [.int .i64 (.ofNat 2), .int .i64 (.ofNat 0), .int .i64 (.ofNat 2)] && (tells [.int .i64 (.ofNat 2), .int .i64 (.ofNat 0), .int .i64 (.ofNat 3)])))) = true := by kernel_rfl
end Go.Proofs.YtpioabhlihabfaaGreat.typesOperators
