/-
  The law TypesMany at some numbers, part 3. Nothing is asked.
-/
import Derived.Test.YtpioabhlihabfaaGreatManyT
namespace Go.Proofs.YtpioabhlihabfaaGreat.typesMany
open Go Go.Ag
set_option maxRecDepth 100000
theorem c12 : (tells [.int .u8 (.ofNat 1), .int .u8 (.ofNat 11), .int .u8 (.ofNat 0)] && (tells [.int .u8 (.ofNat 1), .int .u8 (.ofNat 11), .int .u8 (.ofNat 1)] && (tells [.int .u8 (.ofNat 1), .int .u8 (.ofNat 12), .int .u8 (.ofNat 0)] && (tells [.int .u8 (.ofNat 1), .int .u8 (.ofNat 12), .int .u8 (.ofNat 1)])))) = true := by kernel_rfl
theorem c13 : (tells [.int .u8 (.ofNat 2), .int .u8 (.ofNat 0), .int .u8 (.ofNat 0)] && (tells [.int .u8 (.ofNat 2), .int .u8 (.ofNat 0), .int .u8 (.ofNat 1)] && (tells [.int .u8 (.ofNat 2), .int .u8 (.ofNat 1), .int .u8 (.ofNat 0)] && (tells [.int .u8 (.ofNat 2), .int .u8 (.ofNat 1), .int .u8 (.ofNat 1)])))) = true := by kernel_rfl
theorem c14 : (tells [.int .u8 (.ofNat 2), .int .u8 (.ofNat 2), .int .u8 (.ofNat 0)] && (tells [.int .u8 (.ofNat 2), .int .u8 (.ofNat 2), .int .u8 (.ofNat 1)] && (tells [.int .u8 (.ofNat 2), .int .u8 (.ofNat 3), .int .u8 (.ofNat 0)] && (tells [.int .u8 (.ofNat 2), .int .u8 (.ofNat 3), .int .u8 (.ofNat 1)])))) = true := by kernel_rfl
theorem c15 : (tells [.int .u8 (.ofNat 2), .int .u8 (.ofNat 4), .int .u8 (.ofNat 0)] && (tells [.int .u8 (.ofNat 2), .int .u8 (.ofNat 4), .int .u8 (.ofNat 1)] && (tells [.int .u8 (.ofNat 2), .int .u8 (.ofNat 5), .int .u8 (.ofNat 0)] && (tells [.int .u8 (.ofNat 2), .int .u8 (.ofNat 5), .int .u8 (.ofNat 1)])))) = true := by kernel_rfl
theorem c16 : (tells [.int .u8 (.ofNat 2), .int .u8 (.ofNat 6), .int .u8 (.ofNat 0)] && (tells [.int .u8 (.ofNat 2), .int .u8 (.ofNat 6), .int .u8 (.ofNat 1)] && (tells [.int .u8 (.ofNat 2), .int .u8 (.ofNat 7), .int .u8 (.ofNat 0)] && (tells [.int .u8 (.ofNat 2), .int .u8 (.ofNat 7), .int .u8 (.ofNat 1)])))) = true := by kernel_rfl
theorem c17 : (tells [.int .u8 (.ofNat 2), .int .u8 (.ofNat 8), .int .u8 (.ofNat 0)] && (tells [.int .u8 (.ofNat 2), .int .u8 (.ofNat 8), .int .u8 (.ofNat 1)] && (tells [.int .u8 (.ofNat 2), .int .u8 (.ofNat 9), .int .u8 (.ofNat 0)] && (tells [.int .u8 (.ofNat 2), .int .u8 (.ofNat 9), .int .u8 (.ofNat 1)])))) = true := by kernel_rfl
end Go.Proofs.YtpioabhlihabfaaGreat.typesMany
