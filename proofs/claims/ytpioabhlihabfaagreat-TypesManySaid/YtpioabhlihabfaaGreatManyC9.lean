/-
  The law TypesMany at some numbers, part 9. Nothing is asked.
-/
import Derived.Test.YtpioabhlihabfaaGreatManyT
namespace Go.Proofs.YtpioabhlihabfaaGreat.typesMany
open Go Go.Ag
set_option maxRecDepth 100000
theorem join9 {a b : Bool} (h : a = true) (k : b = true) : (a && b) = true := by rw [h, k]; rfl
theorem c48_0 : (tells [.int .u8 (.ofNat 7), .int .u8 (.ofNat 5), .int .u8 (.ofNat 0)]) = true := by kernel_rfl
theorem c48_1 : (tells [.int .u8 (.ofNat 7), .int .u8 (.ofNat 5), .int .u8 (.ofNat 1)]) = true := by kernel_rfl
theorem c48_2 : (tells [.int .u8 (.ofNat 7), .int .u8 (.ofNat 6), .int .u8 (.ofNat 0)]) = true := by kernel_rfl
theorem c48_3 : (tells [.int .u8 (.ofNat 7), .int .u8 (.ofNat 6), .int .u8 (.ofNat 1)]) = true := by kernel_rfl
theorem c48 : (tells [.int .u8 (.ofNat 7), .int .u8 (.ofNat 5), .int .u8 (.ofNat 0)] && (tells [.int .u8 (.ofNat 7), .int .u8 (.ofNat 5), .int .u8 (.ofNat 1)] && (tells [.int .u8 (.ofNat 7), .int .u8 (.ofNat 6), .int .u8 (.ofNat 0)] && (tells [.int .u8 (.ofNat 7), .int .u8 (.ofNat 6), .int .u8 (.ofNat 1)])))) = true := (join9 c48_0 (join9 c48_1 (join9 c48_2 c48_3)))
theorem c49_0 : (tells [.int .u8 (.ofNat 7), .int .u8 (.ofNat 7), .int .u8 (.ofNat 0)]) = true := by kernel_rfl
theorem c49_1 : (tells [.int .u8 (.ofNat 7), .int .u8 (.ofNat 7), .int .u8 (.ofNat 1)]) = true := by kernel_rfl
theorem c49_2 : (tells [.int .u8 (.ofNat 7), .int .u8 (.ofNat 8), .int .u8 (.ofNat 0)]) = true := by kernel_rfl
theorem c49_3 : (tells [.int .u8 (.ofNat 7), .int .u8 (.ofNat 8), .int .u8 (.ofNat 1)]) = true := by kernel_rfl
theorem c49 : (tells [.int .u8 (.ofNat 7), .int .u8 (.ofNat 7), .int .u8 (.ofNat 0)] && (tells [.int .u8 (.ofNat 7), .int .u8 (.ofNat 7), .int .u8 (.ofNat 1)] && (tells [.int .u8 (.ofNat 7), .int .u8 (.ofNat 8), .int .u8 (.ofNat 0)] && (tells [.int .u8 (.ofNat 7), .int .u8 (.ofNat 8), .int .u8 (.ofNat 1)])))) = true := (join9 c49_0 (join9 c49_1 (join9 c49_2 c49_3)))
theorem c50_0 : (tells [.int .u8 (.ofNat 7), .int .u8 (.ofNat 9), .int .u8 (.ofNat 0)]) = true := by kernel_rfl
theorem c50_1 : (tells [.int .u8 (.ofNat 7), .int .u8 (.ofNat 9), .int .u8 (.ofNat 1)]) = true := by kernel_rfl
theorem c50_2 : (tells [.int .u8 (.ofNat 7), .int .u8 (.ofNat 10), .int .u8 (.ofNat 0)]) = true := by kernel_rfl
theorem c50_3 : (tells [.int .u8 (.ofNat 7), .int .u8 (.ofNat 10), .int .u8 (.ofNat 1)]) = true := by kernel_rfl
theorem c50 : (tells [.int .u8 (.ofNat 7), .int .u8 (.ofNat 9), .int .u8 (.ofNat 0)] && (tells [.int .u8 (.ofNat 7), .int .u8 (.ofNat 9), .int .u8 (.ofNat 1)] && (tells [.int .u8 (.ofNat 7), .int .u8 (.ofNat 10), .int .u8 (.ofNat 0)] && (tells [.int .u8 (.ofNat 7), .int .u8 (.ofNat 10), .int .u8 (.ofNat 1)])))) = true := (join9 c50_0 (join9 c50_1 (join9 c50_2 c50_3)))
theorem c51_0 : (tells [.int .u8 (.ofNat 7), .int .u8 (.ofNat 11), .int .u8 (.ofNat 0)]) = true := by kernel_rfl
theorem c51_1 : (tells [.int .u8 (.ofNat 7), .int .u8 (.ofNat 11), .int .u8 (.ofNat 1)]) = true := by kernel_rfl
theorem c51_2 : (tells [.int .u8 (.ofNat 7), .int .u8 (.ofNat 12), .int .u8 (.ofNat 0)]) = true := by kernel_rfl
theorem c51_3 : (tells [.int .u8 (.ofNat 7), .int .u8 (.ofNat 12), .int .u8 (.ofNat 1)]) = true := by kernel_rfl
theorem c51 : (tells [.int .u8 (.ofNat 7), .int .u8 (.ofNat 11), .int .u8 (.ofNat 0)] && (tells [.int .u8 (.ofNat 7), .int .u8 (.ofNat 11), .int .u8 (.ofNat 1)] && (tells [.int .u8 (.ofNat 7), .int .u8 (.ofNat 12), .int .u8 (.ofNat 0)] && (tells [.int .u8 (.ofNat 7), .int .u8 (.ofNat 12), .int .u8 (.ofNat 1)])))) = true := (join9 c51_0 (join9 c51_1 (join9 c51_2 c51_3)))
theorem c52_0 : (tells [.int .u8 (.ofNat 8), .int .u8 (.ofNat 0), .int .u8 (.ofNat 0)]) = true := by kernel_rfl
theorem c52_1 : (tells [.int .u8 (.ofNat 8), .int .u8 (.ofNat 0), .int .u8 (.ofNat 1)]) = true := by kernel_rfl
theorem c52_2 : (tells [.int .u8 (.ofNat 8), .int .u8 (.ofNat 1), .int .u8 (.ofNat 0)]) = true := by kernel_rfl
theorem c52_3 : (tells [.int .u8 (.ofNat 8), .int .u8 (.ofNat 1), .int .u8 (.ofNat 1)]) = true := by kernel_rfl
theorem c52 : (tells [.int .u8 (.ofNat 8), .int .u8 (.ofNat 0), .int .u8 (.ofNat 0)] && (tells [.int .u8 (.ofNat 8), .int .u8 (.ofNat 0), .int .u8 (.ofNat 1)] && (tells [.int .u8 (.ofNat 8), .int .u8 (.ofNat 1), .int .u8 (.ofNat 0)] && (tells [.int .u8 (.ofNat 8), .int .u8 (.ofNat 1), .int .u8 (.ofNat 1)])))) = true := (join9 c52_0 (join9 c52_1 (join9 c52_2 c52_3)))
theorem c53_0 : (tells [.int .u8 (.ofNat 8), .int .u8 (.ofNat 2), .int .u8 (.ofNat 0)]) = true := by kernel_rfl
theorem c53_1 : (tells [.int .u8 (.ofNat 8), .int .u8 (.ofNat 2), .int .u8 (.ofNat 1)]) = true := by kernel_rfl
theorem c53_2 : (tells [.int .u8 (.ofNat 8), .int .u8 (.ofNat 3), .int .u8 (.ofNat 0)]) = true := by kernel_rfl
theorem c53_3 : (tells [.int .u8 (.ofNat 8), .int .u8 (.ofNat 3), .int .u8 (.ofNat 1)]) = true := by kernel_rfl
theorem c53 : (tells [.int .u8 (.ofNat 8), .int .u8 (.ofNat 2), .int .u8 (.ofNat 0)] && (tells [.int .u8 (.ofNat 8), .int .u8 (.ofNat 2), .int .u8 (.ofNat 1)] && (tells [.int .u8 (.ofNat 8), .int .u8 (.ofNat 3), .int .u8 (.ofNat 0)] && (tells [.int .u8 (.ofNat 8), .int .u8 (.ofNat 3), .int .u8 (.ofNat 1)])))) = true := (join9 c53_0 (join9 c53_1 (join9 c53_2 c53_3)))
end Go.Proofs.YtpioabhlihabfaaGreat.typesMany
