/-
  The law TypesOperators at some numbers, part 2. Nothing is asked.
-/
import Derived.Test.YtpioabhlihabfaaGreatOpersT
namespace Go.Proofs.YtpioabhlihabfaaGreat.typesOperators
open Go Go.Ag
set_option maxRecDepth 100000
theorem c9 : (tells [.int .i64 (.ofNat 2), .int .i64 (.ofNat 1), .int .i64 (.ofNat 0)] && (tells [.int .i64 (.ofNat 2), .int .i64 (.ofNat 1), .int .i64 (.ofNat 1)] && (tells [.int .i64 (.ofNat 2), .int .i64 (.ofNat 1), .int .i64 (.ofNat 2)] && (tells [.int .i64 (.ofNat 2), .int .i64 (.ofNat 1), .int .i64 (.ofNat 3)])))) = true := by kernel_rfl
theorem c10 : (tells [.int .i64 (.ofNat 2), .int .i64 (.ofNat 2), .int .i64 (.ofNat 0)] && (tells [.int .i64 (.ofNat 2), .int .i64 (.ofNat 2), .int .i64 (.ofNat 1)] && (tells [.int .i64 (.ofNat 2), .int .i64 (.ofNat 2), .int .i64 (.ofNat 2)] && (tells [.int .i64 (.ofNat 2), .int .i64 (.ofNat 2), .int .i64 (.ofNat 3)])))) = true := by kernel_rfl
theorem c11 : (tells [.int .i64 (.ofNat 2), .int .i64 (.ofNat 3), .int .i64 (.ofNat 0)] && (tells [.int .i64 (.ofNat 2), .int .i64 (.ofNat 3), .int .i64 (.ofNat 1)] && (tells [.int .i64 (.ofNat 2), .int .i64 (.ofNat 3), .int .i64 (.ofNat 2)] && (tells [.int .i64 (.ofNat 2), .int .i64 (.ofNat 3), .int .i64 (.ofNat 3)])))) = true := by kernel_rfl
theorem c12 : (tells [.int .i64 (.ofNat 3), .int .i64 (.ofNat 0), .int .i64 (.ofNat 0)] && (tells [.int .i64 (.ofNat 3), .int .i64 (.ofNat 0), .int .i64 (.ofNat 1)] && (tells [.int .i64 (.ofNat 3), .int .i64 (.ofNat 0), .int .i64 (.ofNat 2)] && (tells [.int .i64 (.ofNat 3), .int .i64 (.ofNat 0), .int .i64 (.ofNat 3)])))) = true := by kernel_rfl
theorem c13 : (tells [.int .i64 (.ofNat 3), .int .i64 (.ofNat 1), .int .i64 (.ofNat 0)] && (tells [.int .i64 (.ofNat 3), .int .i64 (.ofNat 1), .int .i64 (.ofNat 1)] && (tells [.int .i64 (.ofNat 3), .int .i64 (.ofNat 1), .int .i64 (.ofNat 2)] && (tells [.int .i64 (.ofNat 3), .int .i64 (.ofNat 1), .int .i64 (.ofNat 3)])))) = true := by kernel_rfl
theorem c14 : (tells [.int .i64 (.ofNat 3), .int .i64 (.ofNat 2), .int .i64 (.ofNat 0)] && (tells [.int .i64 (.ofNat 3), .int .i64 (.ofNat 2), .int .i64 (.ofNat 1)] && (tells [.int .i64 (.ofNat 3), .int .i64 (.ofNat 2), .int .i64 (.ofNat 2)] && (tells [.int .i64 (.ofNat 3), .int .i64 (.ofNat 2), .int .i64 (.ofNat 3)])))) = true := by kernel_rfl
theorem c15 : (tells [.int .i64 (.ofNat 3), .int .i64 (.ofNat 3), .int .i64 (.ofNat 0)] && (tells [.int .i64 (.ofNat 3), .int .i64 (.ofNat 3), .int .i64 (.ofNat 1)] && (tells [.int .i64 (.ofNat 3), .int .i64 (.ofNat 3), .int .i64 (.ofNat 2)] && (tells [.int .i64 (.ofNat 3), .int .i64 (.ofNat 3), .int .i64 (.ofNat 3)])))) = true := by kernel_rfl
theorem c16 : (tells [.int .i64 (.ofNat 4), .int .i64 (.ofNat 0), .int .i64 (.ofNat 0)] && (tells [.int .i64 (.ofNat 4), .int .i64 (.ofNat 0), .int .i64 (.ofNat 1)] && (tells [.int .i64 (.ofNat 4), .int .i64 (.ofNat 0), .int .i64 (.ofNat 2)] && (tells [.int .i64 (.ofNat 4), .int .i64 (.ofNat 0), .int .i64 (.ofNat 3)])))) = true := by kernel_rfl
theorem c17 : (tells [.int .i64 (.ofNat 4), .int .i64 (.ofNat 1), .int .i64 (.ofNat 0)] && (tells [.int .i64 (.ofNat 4), .int .i64 (.ofNat 1), .int .i64 (.ofNat 1)] && (tells [.int .i64 (.ofNat 4), .int .i64 (.ofNat 1), .int .i64 (.ofNat 2)] && (tells [.int .i64 (.ofNat 4), .int .i64 (.ofNat 1), .int .i64 (.ofNat 3)])))) = true := by kernel_rfl
end Go.Proofs.YtpioabhlihabfaaGreat.typesOperators
