/-
  The law TypesMany at some numbers, part 4. Nothing is asked.
-/
import Derived.Test.YtpioabhlihabfaaGreatManyT
namespace Go.Proofs.YtpioabhlihabfaaGreat.typesMany
open Go Go.Ag
set_option maxRecDepth 100000
theorem c18 : (tells [.int .u8 (.ofNat 2), .int .u8 (.ofNat 10), .int .u8 (.ofNat 0)] && (tells [.int .u8 (.ofNat 2), .int .u8 (.ofNat 10), .int .u8 (.ofNat 1)] && (tells [.int .u8 (.ofNat 2), .int .u8 (.ofNat 11), .int .u8 (.ofNat 0)] && (tells [.int .u8 (.ofNat 2), .int .u8 (.ofNat 11), .int .u8 (.ofNat 1)])))) = true := by kernel_rfl
theorem c19 : (tells [.int .u8 (.ofNat 2), .int .u8 (.ofNat 12), .int .u8 (.ofNat 0)] && (tells [.int .u8 (.ofNat 2), .int .u8 (.ofNat 12), .int .u8 (.ofNat 1)] && (tells [.int .u8 (.ofNat 3), .int .u8 (.ofNat 0), .int .u8 (.ofNat 0)] && (tells [.int .u8 (.ofNat 3), .int .u8 (.ofNat 0), .int .u8 (.ofNat 1)])))) = true := by kernel_rfl
theorem c20 : (tells [.int .u8 (.ofNat 3), .int .u8 (.ofNat 1), .int .u8 (.ofNat 0)] && (tells [.int .u8 (.ofNat 3), .int .u8 (.ofNat 1), .int .u8 (.ofNat 1)] && (tells [.int .u8 (.ofNat 3), .int .u8 (.ofNat 2), .int .u8 (.ofNat 0)] && (tells [.int .u8 (.ofNat 3), .int .u8 (.ofNat 2), .int .u8 (.ofNat 1)])))) = true := by kernel_rfl
theorem c21 : (tells [.int .u8 (.ofNat 3), .int .u8 (.ofNat 3), .int .u8 (.ofNat 0)] && (tells [.int .u8 (.ofNat 3), .int .u8 (.ofNat 3), .int .u8 (.ofNat 1)] && (tells [.int .u8 (.ofNat 3), .int .u8 (.ofNat 4), .int .u8 (.ofNat 0)] && (tells [.int .u8 (.ofNat 3), .int .u8 (.ofNat 4), .int .u8 (.ofNat 1)])))) = true := by kernel_rfl
theorem c22 : (tells [.int .u8 (.ofNat 3), .int .u8 (.ofNat 5), .int .u8 (.ofNat 0)] && (tells [.int .u8 (.ofNat 3), .int .u8 (.ofNat 5), .int .u8 (.ofNat 1)] && (tells [.int .u8 (.ofNat 3), .int .u8 (.ofNat 6), .int .u8 (.ofNat 0)] && (tells [.int .u8 (.ofNat 3), .int .u8 (.ofNat 6), .int .u8 (.ofNat 1)])))) = true := by kernel_rfl
theorem c23 : (tells [.int .u8 (.ofNat 3), .int .u8 (.ofNat 7), .int .u8 (.ofNat 0)] && (tells [.int .u8 (.ofNat 3), .int .u8 (.ofNat 7), .int .u8 (.ofNat 1)] && (tells [.int .u8 (.ofNat 3), .int .u8 (.ofNat 8), .int .u8 (.ofNat 0)] && (tells [.int .u8 (.ofNat 3), .int .u8 (.ofNat 8), .int .u8 (.ofNat 1)])))) = true := by kernel_rfl
end Go.Proofs.YtpioabhlihabfaaGreat.typesMany
