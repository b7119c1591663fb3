/-
  The law TypesScopes at some numbers, part 1. Nothing is asked.
-/
import Derived.Test.YtpioabhlihabfaaGreatScopesT
namespace Go.Proofs.YtpioabhlihabfaaGreat.typesScopes
open Go Go.Ag
set_option maxRecDepth 100000
theorem c0 : (tells [.int .u8 (.ofNat 0), .int .u8 (.ofNat 0), .int .u8 (.ofNat 0)] && (tells [.int .u8 (.ofNat 0), .int .u8 (.ofNat 0), .int .u8 (.ofNat 1)] && (tells [.int .u8 (.ofNat 0), .int .u8 (.ofNat 0), .int .u8 (.ofNat 2)]))) = true := by kernel_rfl
theorem c1 : (tells [.int .u8 (.ofNat 0), .int .u8 (.ofNat 1), .int .u8 (.ofNat 0)] && (tells [.int .u8 (.ofNat 0), .int .u8 (.ofNat 1), .int .u8 (.ofNat 1)] && (tells [.int .u8 (.ofNat 0), .int .u8 (.ofNat 1), .int .u8 (.ofNat 2)]))) = true := by kernel_rfl
theorem c2 : (tells [.int .u8 (.ofNat 0), .int .u8 (.ofNat 2), .int .u8 (.ofNat 0)] && (tells [.int .u8 (.ofNat 0), .int .u8 (.ofNat 2), .int .u8 (.ofNat 1)] && (tells [.int .u8 (.ofNat 0), .int .u8 (.ofNat 2), .int .u8 (.ofNat 2)]))) = true := by kernel_rfl
theorem c3 : (tells [.int .u8 (.ofNat 1), .int .u8 (.ofNat 0), .int .u8 (.ofNat 0)] && (tells [.int .u8 (.ofNat 1), .int .u8 (.ofNat 0), .int .u8 (.ofNat 1)] && (tells [.int .u8 (.ofNat 1), .int .u8 (.ofNat 0), .int .u8 (.ofNat 2)]))) = true := by kernel_rfl
theorem c4 : (tells [.int .u8 (.ofNat 1), .int .u8 (.ofNat 1), .int .u8 (.ofNat 0)] && (tells [.int .u8 (.ofNat 1), .int .u8 (.ofNat 1), .int .u8 (.ofNat 1)] && (tells [.int .u8 (.ofNat 1), .int .u8 (.ofNat 1), .int .u8 (.ofNat 2)]))) = true := by kernel_rfl
end Go.Proofs.YtpioabhlihabfaaGreat.typesScopes
