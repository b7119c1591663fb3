/-
  The law TypesOperators at some numbers, part 3. Nothing is asked.
-/
import Derived.Test.YtpioabhlihabfaaGreatOpersT
namespace Go.Proofs.YtpioabhlihabfaaGreat.typesOperators
open Go Go.Ag
set_option maxRecDepth 100000
theorem c18 : (tells [.int .i64 (.ofNat 4), .int .i64 (.ofNat 2), .int .i64 (.ofNat 0)] && (tells [.int .i64 (.ofNat 4), .int .i64 (.ofNat 2), .int .i64 (.ofNat 1)] && (tells [.int .i64 (.ofNat 4), .int .i64 (.ofNat 2), .int .i64 (.ofNat 2)] && (tells [.int .i64 (.ofNat 4), .int .i64 (.ofNat 2), .int .i64 (.ofNat 3)])))) = true := by kernel_rfl
theorem c19 : (tells [.int .i64 (.ofNat 4), .int .i64 (.ofNat 3), .int .i64 (.ofNat 0)] && (tells [.int .i64 (.ofNat 4), .int .i64 (.ofNat 3), .int .i64 (.ofNat 1)] && (tells [.int .i64 (.ofNat 4), .int .i64 (.ofNat 3), .int .i64 (.ofNat 2)] && (tells [.int .i64 (.ofNat 4), .int .i64 (.ofNat 3), .int .i64 (.ofNat 3)])))) = true := by kernel_rfl
theorem c20 : (tells [.int .i64 (.ofNat 5), .int .i64 (.ofNat 0), .int .i64 (.ofNat 0)] && (tells [.int .i64 (.ofNat 5), .int .i64 (.ofNat 0), .int .i64 (.ofNat 1)] && (tells [.int .i64 (.ofNat 5), .int .i64 (.ofNat 0), .int .i64 (.ofNat 2)] && (tells [.int .i64 (.ofNat 5), .int .i64 (.ofNat 0), .int .i64 (.ofNat 3)])))) = true := by kernel_rfl
theorem c21 : (tells [.int .i64 (.ofNat 5), .int .i64 (.ofNat 1), .int .i64 (.ofNat 0)] && (tells [.int .i64 (.ofNat 5), .int .i64 (.ofNat 1), .int .i64 (.ofNat 1)] && (tells [.int .i64 (.ofNat 5), .int .i64 (.ofNat 1), .int .i64 (.ofNat 2)] && (tells [.int .i64 (.ofNat 5), .int .i64 (.ofNat 1), .int .i64 (.ofNat 3)])))) = true := by kernel_rfl
theorem c22 : (tells [.int .i64 (.ofNat 5), .int .i64 (.ofNat 2), .int .i64 (.ofNat 0)] && (tells [.int .i64 (.ofNat 5), .int .i64 (.ofNat 2), .int .i64 (.ofNat 1)] && (tells [.int .i64 (.ofNat 5), .int .i64 (.ofNat 2), .int .i64 (.ofNat 2)] && (tells [.int .i64 (.ofNat 5), .int .i64 (.ofNat 2), .int .i64 (.ofNat 3)])))) = true := by kernel_rfl
theorem c23 : (tells [.int .i64 (.ofNat 5), .int .i64 (.ofNat 3), .int .i64 (.ofNat 0)] && (tells [.int .i64 (.ofNat 5), .int .i64 (.ofNat 3), .int .i64 (.ofNat 1)] && (tells [.int .i64 (.ofNat 5), .int .i64 (.ofNat 3), .int .i64 (.ofNat 2)] && (tells [.int .i64 (.ofNat 5), .int .i64 (.ofNat 3), .int .i64 (.ofNat 3)])))) = true := by kernel_rfl
theorem c24 : (tells [.int .i64 (.ofNat 6), .int .i64 (.ofNat 0), .int .i64 (.ofNat 0)] && (tells [.int .i64 (.ofNat 6), .int .i64 (.ofNat 0), .int .i64 (.ofNat 1)] && (tells [.int .i64 (.ofNat 6), .int .i64 (.ofNat 0), .int .i64 (.ofNat 2)] && (tells [.int .i64 (.ofNat 6), .int .i64 (.ofNat 0), .int .i64 (.ofNat 3)])))) = true := by kernel_rfl
theorem c25 : (tells [.int .i64 (.ofNat 6), .int .i64 (.ofNat 1), .int .i64 (.ofNat 0)] && (tells [.int .i64 (.ofNat 6), .int .i64 (.ofNat 1), .int .i64 (.ofNat 1)] && (tells [.int .i64 (.ofNat 6), .int .i64 (.ofNat 1), .int .i64 (.ofNat 2)] && (tells [.int .i64 (.ofNat 6), .int .i64 (.ofNat 1), .int .i64 (.ofNat 3)])))) = true := by kernel_rfl
theorem c26 : (tells [.int .i64 (.ofNat 6), .int .i64 (.ofNat 2), .int .i64 (.ofNat 0)] && (tells [.int .i64 (.ofNat 6), .int .i64 (.ofNat 2), .int .i64 (.ofNat 1)] && (tells [.int .i64 (.ofNat 6), .int .i64 (.ofNat 2), .int .i64 (.ofNat 2)] && (tells [.int .i64 (.ofNat 6), .int .i64 (.ofNat 2), .int .i64 (.ofNat 3)])))) = true := by kernel_rfl
end Go.Proofs.YtpioabhlihabfaaGreat.typesOperators
