/-
  The law TypesMany at some numbers, part 15. Nothing is asked.
-/
import Derived.Test.YtpioabhlihabfaaGreatManyT
namespace Go.Proofs.YtpioabhlihabfaaGreat.typesMany
open Go Go.Ag
set_option maxRecDepth 100000
theorem c84 : (tells [.int .u8 (.ofNat 12), .int .u8 (.ofNat 12), .int .u8 (.ofNat 0)] && (tells [.int .u8 (.ofNat 12), .int .u8 (.ofNat 12), .int .u8 (.ofNat 1)])) = true := by kernel_rfl
end Go.Proofs.YtpioabhlihabfaaGreat.typesMany
