/-
  The law TypesOperators at some numbers, part 8. Nothing is asked.
-/
import Derived.Test.YtpioabhlihabfaaGreatOpersT
namespace Go.Proofs.YtpioabhlihabfaaGreat.typesOperators
open Go Go.Ag
set_option maxRecDepth 100000
theorem c63 : (tells [.int .i64 (.ofNat 15), .int .i64 (.ofNat 3), .int .i64 (.ofNat 0)] && (tells [.int .i64 (.ofNat 15), .int .i64 (.ofNat 3), .int .i64 (.ofNat 1)] && (tells [.int .i64 (.ofNat 15), .int .i64 (.ofNat 3), .int .i64 (.ofNat 2)] && (tells [.int .i64 (.ofNat 15), .int .i64 (.ofNat 3), .int .i64 (.ofNat 3)])))) = true := by kernel_rfl
theorem c64 : (tells [.int .i64 (.ofNat 16), .int .i64 (.ofNat 0), .int .i64 (.ofNat 0)] && (tells [.int .i64 (.ofNat 16), .int .i64 (.ofNat 0), .int .i64 (.ofNat 1)] && (tells [.int .i64 (.ofNat 16), .int .i64 (.ofNat 0), .int .i64 (.ofNat 2)] && (tells [.int .i64 (.ofNat 16), .int .i64 (.ofNat 0), .int .i64 (.ofNat 3)])))) = true := by kernel_rfl
theorem c65 : (tells [.int .i64 (.ofNat 16), .int .i64 (.ofNat 1), .int .i64 (.ofNat 0)] && (tells [.int .i64 (.ofNat 16), .int .i64 (.ofNat 1), .int .i64 (.ofNat 1)] && (tells [.int .i64 (.ofNat 16), .int .i64 (.ofNat 1), .int .i64 (.ofNat 2)] && (tells [.int .i64 (.ofNat 16), .int .i64 (.ofNat 1), .int .i64 (.ofNat 3)])))) = true := by kernel_rfl
theorem c66 : (tells [.int .i64 (.ofNat 16), .int .i64 (.ofNat 2), .int .i64 (.ofNat 0)] && (tells [.int .i64 (.ofNat 16), .int .i64 (.ofNat 2), .int .i64 (.ofNat 1)] && (tells [.int .i64 (.ofNat 16), .int .i64 (.ofNat 2), .int .i64 (.ofNat 2)] && (tells [.int .i64 (.ofNat 16), .int .i64 (.ofNat 2), .int .i64 (.ofNat 3)])))) = true := by kernel_rfl
theorem c67 : (tells [.int .i64 (.ofNat 16), .int .i64 (.ofNat 3), .int .i64 (.ofNat 0)] && (tells [.int .i64 (.ofNat 16), .int .i64 (.ofNat 3), .int .i64 (.ofNat 1)] && (tells [.int .i64 (.ofNat 16), .int .i64 (.ofNat 3), .int .i64 (.ofNat 2)] && (tells [.int .i64 (.ofNat 16), .int .i64 (.ofNat 3), .int .i64 (.ofNat 3)])))) = true := by kernel_rfl
end Go.Proofs.YtpioabhlihabfaaGreat.typesOperators
