/-
  The law TypesMany at some numbers, part 11. Nothing is asked.
-/
import Derived.Test.YtpioabhlihabfaaGreatManyT
namespace Go.Proofs.YtpioabhlihabfaaGreat.typesMany
open Go Go.Ag
set_option maxRecDepth 100000
theorem join11 {a b : Bool} (h : a = true) (k : b = true) : (a && b) = true := by rw [h, k]; rfl
theorem c60_0 : (tells [.int .u8 (.ofNat 9), .int .u8 (.ofNat 3), .int .u8 (.ofNat 0)]) = true := by kernel_rfl
theorem c60_1 : (tells [.int .u8 (.ofNat 9), .int .u8 (.ofNat 3), .int .u8 (.ofNat 1)]) = true := by kernel_rfl
theorem c60_2 : (tells [.int .u8 (.ofNat 9), .int .u8 (.ofNat 4), .int .u8 (.ofNat 0)]) = true := by kernel_rfl
theorem c60_3 : (tells [.int .u8 (.ofNat 9), .int .u8 (.ofNat 4), .int .u8 (.ofNat 1)]) = true := by kernel_rfl
theorem c60 : (tells [.int .u8 (.ofNat 9), .int .u8 (.ofNat 3), .int .u8 (.ofNat 0)] && (tells [.int .u8 (.ofNat 9), .int .u8 (.ofNat 3), .int .u8 (.ofNat 1)] && (tells [.int .u8 (.ofNat 9), .int .u8 (.ofNat 4), .int .u8 (.ofNat 0)] && (tells [.int .u8 (.ofNat 9), .int .u8 (.ofNat 4), .int .u8 (.ofNat 1)])))) = true := (join11 c60_0 (join11 c60_1 (join11 c60_2 c60_3)))
theorem c61_0 : (tells [.int .u8 (.ofNat 9), .int .u8 (.ofNat 5), .int .u8 (.ofNat 0)]) = true := by kernel_rfl
theorem c61_1 : (tells [.int .u8 (.ofNat 9), .int .u8 (.ofNat 5), .int .u8 (.ofNat 1)]) = true := by kernel_rfl
theorem c61_2 : (tells [.int .u8 (.ofNat 9), .int .u8 (.ofNat 6), .int .u8 (.ofNat 0)]) = true := by kernel_rfl
theorem c61_3 : (tells [.int .u8 (.ofNat 9), .int .u8 (.ofNat 6), .int .u8 (.ofNat 1)]) = true := by kernel_rfl
theorem c61 : (tells [.int .u8 (.ofNat 9), .int .u8 (.ofNat 5), .int .u8 (.ofNat 0)] && (tells [.int .u8 (.ofNat 9), .int .u8 (.ofNat 5), .int .u8 (.ofNat 1)] && (tells [.int .u8 (.ofNat 9), .int .u8 (.ofNat 6), .int .u8 (.ofNat 0)] && (tells [.int .u8 (.ofNat 9), .int .u8 (.ofNat 6), .int .u8 (.ofNat 1)])))) = true := (join11 c61_0 (join11 c61_1 (join11 c61_2 c61_3)))
theorem c62_0 : (tells [.int .u8 (.ofNat 9), .int .u8 (.ofNat 7), .int .u8 (.ofNat 0)]) = true := by kernel_rfl
theorem c62_1 : (tells [.int .u8 (.ofNat 9), .int .u8 (.ofNat 7), .int .u8 (.ofNat 1)]) = true := by kernel_rfl
theorem c62_2 : (tells [.int .u8 (.ofNat 9), .int .u8 (.ofNat 8), .int .u8 (.ofNat 0)]) = true := by kernel_rfl
theorem c62_3 : (tells [.int .u8 (.ofNat 9), .int .u8 (.ofNat 8), .int .u8 (.ofNat 1)]) = true := by kernel_rfl
theorem c62 : (tells [.int .u8 (.ofNat 9), .int .u8 (.ofNat 7), .int .u8 (.ofNat 0)] && (tells [.int .u8 (.ofNat 9), .int .u8 (.ofNat 7), .int .u8 (.ofNat 1)] && (tells [.int .u8 (.ofNat 9), .int .u8 (.ofNat 8), .int .u8 (.ofNat 0)] && (tells [.int .u8 (.ofNat 9), .int .u8 (.ofNat 8), .int .u8 (.ofNat 1)])))) = true := (join11 c62_0 (join11 c62_1 (join11 c62_2 c62_3)))
theorem c63_0 : (tells [.int .u8 (.ofNat 9), .int .u8 (.ofNat 9), .int .u8 (.ofNat 0)]) = true := by kernel_rfl
theorem c63_1 : (tells [.int .u8 (.ofNat 9), .int .u8 (.ofNat 9), .int .u8 (.ofNat 1)]) = true := by kernel_rfl
theorem c63_2 : (tells [.int .u8 (.ofNat 9), .int .u8 (.ofNat 10), .int .u8 (.ofNat 0)]) = true := by kernel_rfl
theorem c63_3 : (tells [.int .u8 (.ofNat 9), .int .u8 (.ofNat 10), .int .u8 (.ofNat 1)]) = true := by kernel_rfl
theorem c63 : (tells [.int .u8 (.ofNat 9), .int .u8 (.ofNat 9), .int .u8 (.ofNat 0)] && (tells [.int .u8 (.ofNat 9), .int .u8 (.ofNat 9), .int .u8 (.ofNat 1)] && (tells [.int .u8 (.ofNat 9), .int .u8 (.ofNat 10), .int .u8 (.ofNat 0)] && (tells [.int .u8 (.ofNat 9), .int .u8 (.ofNat 10), .int .u8 (.ofNat 1)])))) = true := (join11 c63_0 (join11 c63_1 (join11 c63_2 c63_3)))
theorem c64_0 : (tells [.int .u8 (.ofNat 9), .int .u8 (.ofNat 11), .int .u8 (.ofNat 0)]) = true := by kernel_rfl
theorem c64_1 : (tells [.int .u8 (.ofNat 9), .int .u8 (.ofNat 11), .int .u8 (.ofNat 1)]) = true := by kernel_rfl
theorem c64_2 : (tells [.int .u8 (.ofNat 9), .int .u8 (.ofNat 12), .int .u8 (.ofNat 0)]) = true := by kernel_rfl
theorem c64_3 : (tells [.int .u8 (.ofNat 9), .int .u8 (.ofNat 12), .int .u8 (.ofNat 1)]) = true := by kernel_rfl
theorem c64 : (tells [.int .u8 (.ofNat 9), .int .u8 (.ofNat 11), .int .u8 (.ofNat 0)] && (tells [.int .u8 (.ofNat 9), .int .u8 (.ofNat 11), .int .u8 (.ofNat 1)] && (tells [.int .u8 (.ofNat 9), .int .u8 (.ofNat 12), .int .u8 (.ofNat 0)] && (tells [.int .u8 (.ofNat 9), .int .u8 (.ofNat 12), .int .u8 (.ofNat 1)])))) = true := (join11 c64_0 (join11 c64_1 (join11 c64_2 c64_3)))
theorem c65_0 : (tells [.int .u8 (.ofNat 10), .int .u8 (.ofNat 0), .int .u8 (.ofNat 0)]) = true := by kernel_rfl
theorem c65_1 : (tells [.int .u8 (.ofNat 10), .int .u8 (.ofNat 0), .int .u8 (.ofNat 1)]) = true := by kernel_rfl
theorem c65_2 : (tells [.int .u8 (.ofNat 10), .int .u8 (.ofNat 1), .int .u8 (.ofNat 0)]) = true := by kernel_rfl
theorem c65_3 : (tells [.int .u8 (.ofNat 10), .int .u8 (.ofNat 1), .int .u8 (.ofNat 1)]) = true := by kernel_rfl
theorem c65 : (tells [.int .u8 (.ofNat 10), .int .u8 (.ofNat 0), .int .u8 (.ofNat 0)] && (tells [.int .u8 (.ofNat 10), .int .u8 (.ofNat 0), .int .u8 (.ofNat 1)] && (tells [.int .u8 (.ofNat 10), .int .u8 (.ofNat 1), .int .u8 (.ofNat 0)] && (tells [.int .u8 (.ofNat 10), .int .u8 (.ofNat 1), .int .u8 (.ofNat 1)])))) = true := (join11 c65_0 (join11 c65_1 (join11 c65_2 c65_3)))
end Go.Proofs.YtpioabhlihabfaaGreat.typesMany
