/-
  The law TypesMany at some numbers, part 10. Nothing is asked.
-/
import Derived.Test.YtpioabhlihabfaaGreatManyT
namespace Go.Proofs.YtpioabhlihabfaaGreat.typesMany
open Go Go.Ag
set_option maxRecDepth 100000
theorem join10 {a b : Bool} (h : a = true) (k : b = true) : (a && b) = true := by rw [h, k]; rfl
theorem c54_0 : (tells [.int .u8 (.ofNat 8), .int .u8 (.ofNat 4), .int .u8 (.ofNat 0)]) = true := by kernel_rfl
theorem c54_1 : (tells [.int .u8 (.ofNat 8), .int .u8 (.ofNat 4), .int .u8 (.ofNat 1)]) = true := by kernel_rfl
theorem c54_2 : (tells [.int .u8 (.ofNat 8), .int .u8 (.ofNat 5), .int .u8 (.ofNat 0)]) = true := by kernel_rfl
theorem c54_3 : (tells [.int .u8 (.ofNat 8), .int .u8 (.ofNat 5), .int .u8 (.ofNat 1)]) = true := by kernel_rfl
theorem c54 : (tells [.int .u8 (.ofNat 8), .int .u8 (.ofNat 4), .int .u8 (.ofNat 0)] && (tells [.int .u8 (.ofNat 8), .int .u8 (.ofNat 4), .int .u8 (.ofNat 1)] && (tells [.int .u8 (.ofNat 8), .int .u8 (.ofNat 5), .int .u8 (.ofNat 0)] && (tells [.int .u8 (.ofNat 8), .int .u8 (.ofNat 5), .int .u8 (.ofNat 1)])))) = true := (join10 c54_0 (join10 c54_1 (join10 c54_2 c54_3)))
theorem c55_0 : (tells [.int .u8 (.ofNat 8), .int .u8 (.ofNat 6), .int .u8 (.ofNat 0)]) = true := by kernel_rfl
theorem c55_1 : (tells [.int .u8 (.ofNat 8), .int .u8 (.ofNat 6), .int .u8 (.ofNat 1)]) = true := by kernel_rfl
theorem c55_2 : (tells [.int .u8 (.ofNat 8), .int .u8 (.ofNat 7), .int .u8 (.ofNat 0)]) = true := by kernel_rfl
theorem c55_3 : (tells [.int .u8 (.ofNat 8), .int .u8 (.ofNat 7), .int .u8 (.ofNat 1)]) = true := by kernel_rfl
theorem c55 : (tells [.int .u8 (.ofNat 8), .int .u8 (.ofNat 6), .int .u8 (.ofNat 0)] && (tells [.int .u8 (.ofNat 8), .int .u8 (.ofNat 6), .int .u8 (.ofNat 1)] && (tells [.int .u8 (.ofNat 8), .int .u8 (.ofNat 7), .int .u8 (.ofNat 0)] && (tells [.int .u8 (.ofNat 8), .int .u8 (.ofNat 7), .int .u8 (.ofNat 1)])))) = true := (join10 c55_0 (join10 c55_1 (join10 c55_2 c55_3)))
theorem c56_0 : (tells [.int .u8 (.ofNat 8), .int .u8 (.ofNat 8), .int .u8 (.ofNat 0)]) = true := by kernel_rfl
theorem c56_1 : (tells [.int .u8 (.ofNat 8), .int .u8 (.ofNat 8), .int .u8 (.ofNat 1)]) = true := by kernel_rfl
theorem c56_2 : (tells [.int .u8 (.ofNat 8), .int .u8 (.ofNat 9), .int .u8 (.ofNat 0)]) = true := by kernel_rfl
theorem c56_3 : (tells [.int .u8 (.ofNat 8), .int .u8 (.ofNat 9), .int .u8 (.ofNat 1)]) = true := by kernel_rfl
theorem c56 : (tells [.int .u8 (.ofNat 8), .int .u8 (.ofNat 8), .int .u8 (.ofNat 0)] && (tells [.int .u8 (.ofNat 8), .int .u8 (.ofNat 8), .int .u8 (.ofNat 1)] && (tells [.int .u8 (.ofNat 8), .int .u8 (.ofNat 9), .int .u8 (.ofNat 0)] && (tells [.int .u8 (.ofNat 8), .int .u8 (.ofNat 9), .int .u8 (.ofNat 1)])))) = true := (join10 c56_0 (join10 c56_1 (join10 c56_2 c56_3)))
theorem c57_0 : (tells [.int .u8 (.ofNat 8), .int .u8 (.ofNat 10), .int .u8 (.ofNat 0)]) = true := by kernel_rfl
theorem c57_1 : (tells [.int .u8 (.ofNat 8), .int .u8 (.ofNat 10), .int .u8 (.ofNat 1)]) = true := by kernel_rfl
theorem c57_2 : (tells [.int .u8 (.ofNat 8), .int .u8 (.ofNat 11), .int .u8 (.ofNat 0)]) = true := by kernel_rfl
theorem c57_3 : (tells [.int .u8 (.ofNat 8), .int .u8 (.ofNat 11), .int .u8 (.ofNat 1)]) = true := by kernel_rfl
theorem c57 : (tells [.int .u8 (.ofNat 8), .int .u8 (.ofNat 10), .int .u8 (.ofNat 0)] && (tells [.int .u8 (.ofNat 8), .int .u8 (.ofNat 10), .int .u8 (.ofNat 1)] && (tells [.int .u8 (.ofNat 8), .int .u8 (.ofNat 11), .int .u8 (.ofNat 0)] && (tells [.int .u8 (.ofNat 8), .int .u8 (.ofNat 11), .int .u8 (.ofNat 1)])))) = true := (join10 c57_0 (join10 c57_1 (join10 c57_2 c57_3)))
theorem c58_0 : (tells [.int .u8 (.ofNat 8), .int .u8 (.ofNat 12), .int .u8 (.ofNat 0)]) = true := by kernel_rfl
theorem c58_1 : (tells [.int .u8 (.ofNat 8), .int .u8 (.ofNat 12), .int .u8 (.ofNat 1)]) = true := by kernel_rfl
theorem c58_2 : (tells [.int .u8 (.ofNat 9), .int .u8 (.ofNat 0), .int .u8 (.ofNat 0)]) = true := by kernel_rfl
theorem c58_3 : (tells [.int .u8 (.ofNat 9), .int .u8 (.ofNat 0), .int .u8 (.ofNat 1)]) = true := by kernel_rfl
theorem c58 : (tells [.int .u8 (.ofNat 8), .int .u8 (.ofNat 12), .int .u8 (.ofNat 0)] && (tells [.int .u8 (.ofNat 8), .int .u8 (.ofNat 12), .int .u8 (.ofNat 1)] && (tells [.int .u8 (.ofNat 9), .int .u8 (.ofNat 0), .int .u8 (.ofNat 0)] && (tells [.int .u8 (.ofNat 9), .int .u8 (.ofNat 0), .int .u8 (.ofNat 1)])))) = true := (join10 c58_0 (join10 c58_1 (join10 c58_2 c58_3)))
theorem c59_0 : (tells [.int .u8 (.ofNat 9), .int .u8 (.ofNat 1), .int .u8 (.ofNat 0)]) = true := by kernel_rfl
theorem c59_1 : (tells [.int .u8 (.ofNat 9), .int .u8 (.ofNat 1), .int .u8 (.ofNat 1)]) = true := by kernel_rfl
theorem c59_2 : (tells [.int .u8 (.ofNat 9), .int .u8 (.ofNat 2), .int .u8 (.ofNat 0)]) = true := by kernel_rfl
theorem c59_3 : (tells [.int .u8 (.ofNat 9), .int .u8 (.ofNat 2), .int .u8 (.ofNat 1)]) = true := by kernel_rfl
theorem c59 : (tells [.int .u8 (.ofNat 9), .int .u8 (.ofNat 1), .int .u8 (.ofNat 0)] && (tells [.int .u8 (.ofNat 9), .int .u8 (.ofNat 1), .int .u8 (.ofNat 1)] && (tells [.int .u8 (.ofNat 9), .int .u8 (.ofNat 2), .int .u8 (.ofNat 0)] && (tells [.int .u8 (.ofNat 9), .int .u8 (.ofNat 2), .int .u8 (.ofNat 1)])))) = true := (join10 c59_0 (join10 c59_1 (join10 c59_2 c59_3)))
end Go.Proofs.YtpioabhlihabfaaGreat.typesMany
