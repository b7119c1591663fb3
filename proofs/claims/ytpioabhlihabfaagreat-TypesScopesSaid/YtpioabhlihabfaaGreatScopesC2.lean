/-
  The law TypesScopes at some numbers, part 2. Nothing is asked.
-/
import Derived.Test.YtpioabhlihabfaaGreatScopesT
namespace Go.Proofs.YtpioabhlihabfaaGreat.typesScopes
open Go Go.Ag
set_option maxRecDepth 100000
theorem c5 : (tells [.int .u8 (.ofNat 1), .int .u8 (.ofNat 2), .int .u8 (.ofNat 0)] && (tells [.int .u8 (.ofNat 1), .int .u8 (.ofNat 2), .int .u8 (.ofNat 1)] && (tells [.int .u8 (.ofNat 1), .int .u8 (.ofNat 2), .int .u8 (.ofNat 2)]))) = true := by kernel_rfl
theorem c6 : (tells [.int .u8 (.ofNat 2), .int .u8 (.ofNat 0), .int .u8 (.ofNat 0)] && (tells [.int .u8 (.ofNat 2), .int .u8 (.ofNat 0), .int .u8 (.ofNat 1)] && (tells [.int .u8 (.ofNat 2), .int .u8 (.ofNat 0), .int .u8 (.ofNat 2)]))) = true := by kernel_rfl
theorem c7 : (tells [.int .u8 (.ofNat 2), .int .u8 (.ofNat 1), .int .u8 (.ofNat 0)] && (tells [.int .u8 (.ofNat 2), .int .u8 (.ofNat 1), .int .u8 (.ofNat 1)] && (tells [.int .u8 (.ofNat 2), .int .u8 (.ofNat 1), .int .u8 (.ofNat 2)]))) = true := by kernel_rfl
theorem c8 : (tells [.int .u8 (.ofNat 2), .int .u8 (.ofNat 2), .int .u8 (.ofNat 0)] && (tells [.int .u8 (.ofNat 2), .int .u8 (.ofNat 2), .int .u8 (.ofNat 1)] && (tells [.int .u8 (.ofNat 2), .int .u8 (.ofNat 2), .int .u8 (.ofNat 2)]))) = true := by kernel_rfl
end Go.Proofs.YtpioabhlihabfaaGreat.typesScopes
