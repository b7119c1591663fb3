/-
  The law TypesMany at some numbers, part 7. Nothing is asked.
-/
import Derived.Test.YtpioabhlihabfaaGreatManyT
namespace Go.Proofs.YtpioabhlihabfaaGreat.typesMany
open Go Go.Ag
set_option maxRecDepth 100000
theorem join7 {a b : Bool} (h : a = true) (k : b = true) : (a && b) = true := by rw [h, k]; rfl
theorem c36_0 : (tells [.int .u8 (.ofNat 5), .int .u8 (.ofNat 7), .int .u8 (.ofNat 0)]) = true := by kernel_rfl
theorem c36_1 : (tells [.int .u8 (.ofNat 5), .int .u8 (.ofNat 7), .int .u8 (.ofNat 1)]) = true := by kernel_rfl
theorem c36_2 : (tells [.int .u8 (.ofNat 5), .int .u8 (.ofNat 8), .int .u8 (.ofNat 0)]) = true := by kernel_rfl
theorem c36_3 : (tells [.int .u8 (.ofNat 5), .int .u8 (.ofNat 8), .int .u8 (.ofNat 1)]) = true := by kernel_rfl
theorem c36 : (tells [.int .u8 (.ofNat 5), .int .u8 (.ofNat 7), .int .u8 (.ofNat 0)] && (tells [.int .u8 (.ofNat 5), .int .u8 (.ofNat 7), .int .u8 (.ofNat 1)] && (tells [.int .u8 (.ofNat 5), .int .u8 (.ofNat 8), .int .u8 (.ofNat 0)] && (tells [.int .u8 (.ofNat 5), .int .u8 (.ofNat 8), .int .u8 (.ofNat 1)])))) = true := (join7 c36_0 (join7 c36_1 (join7 c36_2 c36_3)))
theorem c37_0 : (tells [.int .u8 (.ofNat 5), .int .u8 (.ofNat 9), .int .u8 (.ofNat 0)]) = true := by kernel_rfl
theorem c37_1 : (tells [.int .u8 (.ofNat 5), .int .u8 (.ofNat 9), .int .u8 (.ofNat 1)]) = true := by kernel_rfl
theorem c37_2 : (tells [.int .u8 (.ofNat 5), .int .u8 (.ofNat 10), .int .u8 (.ofNat 0)]) = true := by kernel_rfl
theorem c37_3 : (tells [.int .u8 (.ofNat 5), .int .u8 (.ofNat 10), .int .u8 (.ofNat 1)]) = true := by kernel_rfl
theorem c37 : (tells [.int .u8 (.ofNat 5), .int .u8 (.ofNat 9), .int .u8 (.ofNat 0)] && (tells [.int .u8 (.ofNat 5), .int .u8 (.ofNat 9), .int .u8 (.ofNat 1)] && (tells [.int .u8 (.ofNat 5), .int .u8 (.ofNat 10), .int .u8 (.ofNat 0)] && (tells [.int .u8 (.ofNat 5), .int .u8 (.ofNat 10), .int .u8 (.ofNat 1)])))) = true := (join7 c37_0 (join7 c37_1 (join7 c37_2 c37_3)))
theorem c38_0 : (tells [.int .u8 (.ofNat 5), .int .u8 (.ofNat 11), .int .u8 (.ofNat 0)]) = true := by kernel_rfl
theorem c38_1 : (tells [.int .u8 (.ofNat 5), .int .u8 (.ofNat 11), .int .u8 (.ofNat 1)]) = true := by kernel_rfl
theorem c38_2 : (tells [.int .u8 (.ofNat 5), .int .u8 (.ofNat 12), .int .u8 (.ofNat 0)]) = true := by kernel_rfl
theorem c38_3 : (tells [.int .u8 (.ofNat 5), .int .u8 (.ofNat 12), .int .u8 (.ofNat 1)]) = true := by kernel_rfl
theorem c38 : (tells [.int .u8 (.ofNat 5), .int .u8 (.ofNat 11), .int .u8 (.ofNat 0)] && (tells [.int .u8 (.ofNat 5), .int .u8 (.ofNat 11), .int .u8 (.ofNat 1)] && (tells [.int .u8 (.ofNat 5), .int .u8 (.ofNat 12), .int .u8 (.ofNat 0)] && (tells [.int .u8 (.ofNat 5), .int .u8 (.ofNat 12), .int .u8 (.ofNat 1)])))) = true := (join7 c38_0 (join7 c38_1 (join7 c38_2 c38_3)))
theorem c39_0 : (tells [.int .u8 (.ofNat 6), .int .u8 (.ofNat 0), .int .u8 (.ofNat 0)]) = true := by kernel_rfl
theorem c39_1 : (tells [.int .u8 (.ofNat 6), .int .u8 (.ofNat 0), .int .u8 (.ofNat 1)]) = true := by kernel_rfl
theorem c39_2 : (tells [.int .u8 (.ofNat 6), .int .u8 (.ofNat 1), .int .u8 (.ofNat 0)]) = true := by kernel_rfl
theorem c39_3 : (tells [.int .u8 (.ofNat 6), .int .u8 (.ofNat 1), .int .u8 (.ofNat 1)]) = true := by kernel_rfl
theorem c39 : (tells [.int .u8 (.ofNat 6), .int .u8 (.ofNat 0), .int .u8 (.ofNat 0)] && (tells [.int .u8 (.ofNat 6), .int .u8 (.ofNat 0), .int .u8 (.ofNat 1)] && (tells [.int .u8 (.ofNat 6), .int .u8 (.ofNat 1), .int .u8 (.ofNat 0)] && (tells [.int .u8 (.ofNat 6), .int .u8 (.ofNat 1), .int .u8 (.ofNat 1)])))) = true := (join7 c39_0 (join7 c39_1 (join7 c39_2 c39_3)))
theorem c40_0 : (tells [.int .u8 (.ofNat 6), .int .u8 (.ofNat 2), .int .u8 (.ofNat 0)]) = true := by kernel_rfl
theorem c40_1 : (tells [.int .u8 (.ofNat 6), .int .u8 (.ofNat 2), .int .u8 (.ofNat 1)]) = true := by kernel_rfl
theorem c40_2 : (tells [.int .u8 (.ofNat 6), .int .u8 (.ofNat 3), .int .u8 (.ofNat 0)]) = true := by kernel_rfl
theorem c40_3 : (tells [.int .u8 (.ofNat 6), .int .u8 (.ofNat 3), .int .u8 (.ofNat 1)]) = true := by kernel_rfl
theorem c40 : (tells [.int .u8 (.ofNat 6), .int .u8 (.ofNat 2), .int .u8 (.ofNat 0)] && (tells [.int .u8 (.ofNat 6), .int .u8 (.ofNat 2), .int .u8 (.ofNat 1)] && (tells [.int .u8 (.ofNat 6), .int .u8 (.ofNat 3), .int .u8 (.ofNat 0)] && (tells [.int .u8 (.ofNat 6), .int .u8 (.ofNat 3), .int .u8 (.ofNat 1)])))) = true := (join7 c40_0 (join7 c40_1 (join7 c40_2 c40_3)))
theorem c41_0 : (tells [.int .u8 (.ofNat 6), .int .u8 (.ofNat 4), .int .u8 (.ofNat 0)]) = true := by kernel_rfl
theorem c41_1 : (tells [.int .u8 (.ofNat 6), .int .u8 (.ofNat 4), .int .u8 (.ofNat 1)]) = true := by kernel_rfl
theorem c41_2 : (tells [.int .u8 (.ofNat 6), .int .u8 (.ofNat 5), .int .u8 (.ofNat 0)]) = true := by kernel_rfl
theorem c41_3 : (tells [.int .u8 (.ofNat 6), .int .u8 (.ofNat 5), .int .u8 (.ofNat 1)]) = true := by kernel_rfl
theorem c41 : (tells [.int .u8 (.ofNat 6), .int .u8 (.ofNat 4), .int .u8 (.ofNat 0)] && (tells [.int .u8 (.ofNat 6), .int .u8 (.ofNat 4), .int .u8 (.ofNat 1)] && (tells [.int .u8 (.ofNat 6), .int .u8 (.ofNat 5), .int .u8 (.ofNat 0)] && (tells [.int .u8 (.ofNat 6), .int .u8 (.ofNat 5), .int .u8 (.ofNat 1)])))) = true := (join7 c41_0 (join7 c41_1 (join7 c41_2 c41_3)))
end Go.Proofs.YtpioabhlihabfaaGreat.typesMany
