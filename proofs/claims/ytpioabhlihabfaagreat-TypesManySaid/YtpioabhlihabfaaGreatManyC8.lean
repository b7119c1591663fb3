/-
  The law TypesMany at some numbers, part 8. Nothing is asked.
-/
import Derived.Test.YtpioabhlihabfaaGreatManyT
namespace Go.Proofs.YtpioabhlihabfaaGreat.typesMany
open Go Go.Ag
set_option maxRecDepth 100000
theorem join8 {a b : Bool} (h : a = true) (k : b = true) : (a && b) = true := by rw [h, k]; rfl
theorem c42_0 : (tells [.int .u8 (.ofNat 6), .int .u8 (.ofNat 6), .int .u8 (.ofNat 0)]) = true := by kernel_rfl
theorem c42_1 : (tells [.int .u8 (.ofNat 6), .int .u8 (.ofNat 6), .int .u8 (.ofNat 1)]) = true := by kernel_rfl
theorem c42_2 : (tells [.int .u8 (.ofNat 6), .int .u8 (.ofNat 7), .int .u8 (.ofNat 0)]) = true := by kernel_rfl
theorem c42_3 : (tells [.int .u8 (.ofNat 6), .int .u8 (.ofNat 7), .int .u8 (.ofNat 1)]) = true := by kernel_rfl
theorem c42 : (tells [.int .u8 (.ofNat 6), .int .u8 (.ofNat 6), .int .u8 (.ofNat 0)] && (tells [.int .u8 (.ofNat 6), .int .u8 (.ofNat 6), .int .u8 (.ofNat 1)] && (tells [.int .u8 (.ofNat 6), .int .u8 (.ofNat 7), .int .u8 (.ofNat 0)] && (tells [.int .u8 (.ofNat 6), .int .u8 (.ofNat 7), .int .u8 (.ofNat 1)])))) = true := (join8 c42_0 (join8 c42_1 (join8 c42_2 c42_3)))
theorem c43_0 : (tells [.int .u8 (.ofNat 6), .int .u8 (.ofNat 8), .int .u8 (.ofNat 0)]) = true := by kernel_rfl
theorem c43_1 : (tells [.int .u8 (.ofNat 6), .int .u8 (.ofNat 8), .int .u8 (.ofNat 1)]) = true := by kernel_rfl
theorem c43_2 : (tells [.int .u8 (.ofNat 6), .int .u8 (.ofNat 9), .int .u8 (.ofNat 0)]) = true := by kernel_rfl
theorem c43_3 : (tells [.int .u8 (.ofNat 6), .int .u8 (.ofNat 9), .int .u8 (.ofNat 1)]) = true := by kernel_rfl
theorem c43 : (tells [.int .u8 (.ofNat 6), .int .u8 (.ofNat 8), .int .u8 (.ofNat 0)] && (tells [.int .u8 (.ofNat 6), .int .u8 (.ofNat 8), .int .u8 (.ofNat 1)] && (tells [.int .u8 (.ofNat 6), .int .u8 (.ofNat 9), .int .u8 (.ofNat 0)] && (tells [.int .u8 (.ofNat 6), .int .u8 (.ofNat 9), .int .u8 (.ofNat 1)])))) = true := (join8 c43_0 (join8 c43_1 (join8 c43_2 c43_3)))
theorem c44_0 : (tells [.int .u8 (.ofNat 6), .int .u8 (.ofNat 10), .int .u8 (.ofNat 0)]) = true := by kernel_rfl
theorem c44_1 : (tells [.int .u8 (.ofNat 6), .int .u8 (.ofNat 10), .int .u8 (.ofNat 1)]) = true := by kernel_rfl
theorem c44_2 : (tells [.int .u8 (.ofNat 6), .int .u8 (.ofNat 11), .int .u8 (.ofNat 0)]) = true := by kernel_rfl
theorem c44_3 : (tells [.int .u8 (.ofNat 6), .int .u8 (.ofNat 11), .int .u8 (.ofNat 1)]) = true := by kernel_rfl
theorem c44 : (tells [.int .u8 (.ofNat 6), .int .u8 (.ofNat 10), .int .u8 (.ofNat 0)] && (tells [.int .u8 (.ofNat 6), .int .u8 (.ofNat 10), .int .u8 (.ofNat 1)] && (tells [.int .u8 (.ofNat 6), .int .u8 (.ofNat 11), .int .u8 (.ofNat 0)] && (tells [.int .u8 (.ofNat 6), .int .u8 (.ofNat 11), .int .u8 (.ofNat 1)])))) = true := (join8 c44_0 (join8 c44_1 (join8 c44_2 c44_3)))
theorem c45_0 : (tells [.int .u8 (.ofNat 6), .int .u8 (.ofNat 12), .int .u8 (.ofNat 0)]) = true := by kernel_rfl
theorem c45_1 : (tells [.int .u8 (.ofNat 6), .int .u8 (.ofNat 12), .int .u8 (.ofNat 1)]) = true := by kernel_rfl
theorem c45_2 : (tells [.int .u8 (.ofNat 7), .int .u8 (.ofNat 0), .int .u8 (.ofNat 0)]) = true := by kernel_rfl
theorem c45_3 : (tells [.int .u8 (.ofNat 7), .int .u8 (.ofNat 0), .int .u8 (.ofNat 1)]) = true := by kernel_rfl
theorem c45 : (tells [.int .u8 (.ofNat 6), .int .u8 (.ofNat 12), .int .u8 (.ofNat 0)] && (tells [.int .u8 (.ofNat 6), .int .u8 (.ofNat 12), .int .u8 (.ofNat 1)] && (tells [.int .u8 (.ofNat 7), .int .u8 (.ofNat 0), .int .u8 (.ofNat 0)] && (tells [.int .u8 (.ofNat 7), .int .u8 (.ofNat 0), .int .u8 (.ofNat 1)])))) = true := (join8 c45_0 (join8 c45_1 (join8 c45_2 c45_3)))
theorem c46_0 : (tells [.int .u8 (.ofNat 7), .int .u8 (.ofNat 1), .int .u8 (.ofNat 0)]) = true := by kernel_rfl
theorem c46_1 : (tells [.int .u8 (.ofNat 7), .int .u8 (.ofNat 1), .int .u8 (.ofNat 1)]) = true := by kernel_rfl
theorem c46_2 : (tells [.int .u8 (.ofNat 7), .int .u8 (.ofNat 2), .int .u8 (.ofNat 0)]) = true := by kernel_rfl
theorem c46_3 : (tells [.int .u8 (.ofNat 7), .int .u8 (.ofNat 2), .int .u8 (.ofNat 1)]) = true := by kernel_rfl
theorem c46 : (tells [.int .u8 (.ofNat 7), .int .u8 (.ofNat 1), .int .u8 (.ofNat 0)] && (tells [.int .u8 (.ofNat 7), .int .u8 (.ofNat 1), .int .u8 (.ofNat 1)] && (tells [.int .u8 (.ofNat 7), .int .u8 (.ofNat 2), .int .u8 (.ofNat 0)] && (tells [.int .u8 (.ofNat 7), .int .u8 (.ofNat 2), .int .u8 (.ofNat 1)])))) = true := (join8 c46_0 (join8 c46_1 (join8 c46_2 c46_3)))
theorem c47_0 : (tells [.int .u8 (.ofNat 7), .int .u8 (.ofNat 3), .int .u8 (.ofNat 0)]) = true := by kernel_rfl
theorem c47_1 : (tells [.int .u8 (.ofNat 7), .int .u8 (.ofNat 3), .int .u8 (.ofNat 1)]) = true := by kernel_rfl
theorem c47_2 : (tells [.int .u8 (.ofNat 7), .int .u8 (.ofNat 4), .int .u8 (.ofNat 0)]) = true := by kernel_rfl
theorem c47_3 : (tells [.int .u8 (.ofNat 7), .int .u8 (.ofNat 4), .int .u8 (.ofNat 1)]) = true := by kernel_rfl
theorem c47 : (tells [.int .u8 (.ofNat 7), .int .u8 (.ofNat 3), .int .u8 (.ofNat 0)] && (tells [.int .u8 (.ofNat 7), .int .u8 (.ofNat 3), .int .u8 (.ofNat 1)] && (tells [.int .u8 (.ofNat 7), .int .u8 (.ofNat 4), .int .u8 (.ofNat 0)] && (tells [.int .u8 (.ofNat 7), .int .u8 (.ofNat 4), .int .u8 (.ofNat 1)])))) = true := (join8 c47_0 (join8 c47_1 (join8 c47_2 c47_3)))
end Go.Proofs.YtpioabhlihabfaaGreat.typesMany
