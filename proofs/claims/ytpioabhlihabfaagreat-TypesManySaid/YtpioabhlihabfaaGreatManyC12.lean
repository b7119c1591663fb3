/-
  The law TypesMany at some numbers, part 12. Nothing is asked.
-/
import Derived.Test.YtpioabhlihabfaaGreatManyT
namespace Go.Proofs.YtpioabhlihabfaaGreat.typesMany
open Go Go.Ag
set_option maxRecDepth 100000
theorem join12 {a b : Bool} (h : a = true) (k : b = true) : (a && b) = true := by rw [h, k]; rfl
theorem c66_0 : (tells [.int .u8 (.ofNat 10), .int .u8 (.ofNat 2), .int .u8 (.ofNat 0)]) = true := by kernel_rfl
theorem c66_1 : (tells [.int .u8 (.ofNat 10), .int .u8 (.ofNat 2), .int .u8 (.ofNat 1)]) = true := by kernel_rfl
theorem c66_2 : (tells [.int .u8 (.ofNat 10), .int .u8 (.ofNat 3), .int .u8 (.ofNat 0)]) = true := by kernel_rfl
theorem c66_3 : (tells [.int .u8 (.ofNat 10), .int .u8 (.ofNat 3), .int .u8 (.ofNat 1)]) = true := by kernel_rfl
theorem c66 : (tells [.int .u8 (.ofNat 10), .int .u8 (.ofNat 2), .int .u8 (.ofNat 0)] && (tells [.int .u8 (.ofNat 10), .int .u8 (.ofNat 2), .int .u8 (.ofNat 1)] && (tells [.int .u8 (.ofNat 10), .int .u8 (.ofNat 3), .int .u8 (.ofNat 0)] && (tells [.int .u8 (.ofNat 10), .int .u8 (.ofNat 3), .int .u8 (.ofNat 1)])))) = true := (join12 c66_0 (join12 c66_1 (join12 c66_2 c66_3)))
theorem c67_0 : (tells [.int .u8 (.ofNat 10), .int .u8 (.ofNat 4), .int .u8 (.ofNat 0)]) = true := by kernel_rfl
theorem c67_1 : (tells [.int .u8 (.ofNat 10), .int .u8 (.ofNat 4), .int .u8 (.ofNat 1)]) = true := by kernel_rfl
theorem c67_2 : (tells [.int .u8 (.ofNat 10), .int .u8 (.ofNat 5), .int .u8 (.ofNat 0)]) = true := by kernel_rfl
theorem c67_3 : (tells [.int .u8 (.ofNat 10), .int .u8 (.ofNat 5), .int .u8 (.ofNat 1)]) = true := by kernel_rfl
theorem c67 : (tells [.int .u8 (.ofNat 10), .int .u8 (.ofNat 4), .int .u8 (.ofNat 0)] && (tells [.int .u8 (.ofNat 10), .int .u8 (.ofNat 4), .int .u8 (.ofNat 1)] && (tells [.int .u8 (.ofNat 10), .int .u8 (.ofNat 5), .int .u8 (.ofNat 0)] && (tells [.int .u8 (.ofNat 10), .int .u8 (.ofNat 5), .int .u8 (.ofNat 1)])))) = true := (join12 c67_0 (join12 c67_1 (join12 c67_2 c67_3)))
theorem c68_0 : (tells [.int .u8 (.ofNat 10), .int .u8 (.ofNat 6), .int .u8 (.ofNat 0)]) = true := by kernel_rfl
theorem c68_1 : (tells [.int .u8 (.ofNat 10), .int .u8 (.ofNat 6), .int .u8 (.ofNat 1)]) = true := by kernel_rfl
theorem c68_2 : (tells [.int .u8 (.ofNat 10), .int .u8 (.ofNat 7), .int .u8 (.ofNat 0)]) = true := by kernel_rfl
theorem c68_3 : (tells [.int .u8 (.ofNat 10), .int .u8 (.ofNat 7), .int .u8 (.ofNat 1)]) = true := by kernel_rfl
theorem c68 : (tells [.int .u8 (.ofNat 10), .int .u8 (.ofNat 6), .int .u8 (.ofNat 0)] && (tells [.int .u8 (.ofNat 10), .int .u8 (.ofNat 6), .int .u8 (.ofNat 1)] && (tells [.int .u8 (.ofNat 10), .int .u8 (.ofNat 7), .int .u8 (.ofNat 0)] && (tells [.int .u8 (.ofNat 10), .int .u8 (.ofNat 7), .int .u8 (.ofNat 1)])))) = true := (join12 c68_0 (join12 c68_1 (join12 c68_2 c68_3)))
theorem c69_0 : (tells [.int .u8 (.ofNat 10), .int .u8 (.ofNat 8), .int .u8 (.ofNat 0)]) = true := by kernel_rfl
theorem c69_1 : (tells [.int .u8 (.ofNat 10), .int .u8 (.ofNat 8), .int .u8 (.ofNat 1)]) = true := by kernel_rfl
theorem c69_2 : (tells [.int .u8 (.ofNat 10), .int .u8 (.ofNat 9), .int .u8 (.ofNat 0)]) = true := by kernel_rfl
theorem c69_3 : (tells [.int .u8 (.ofNat 10), .int .u8 (.ofNat 9), .int .u8 (.ofNat 1)]) = true := by kernel_rfl
theorem c69 : (tells [.int .u8 (.ofNat 10), .int .u8 (.ofNat 8), .int .u8 (.ofNat 0)] && (tells [.int .u8 (.ofNat 10), .int .u8 (.ofNat 8), .int .u8 (.ofNat 1)] && (tells [.int .u8 (.ofNat 10), .int .u8 (.ofNat 9), .int .u8 (.ofNat 0)] && (tells [.int .u8 (.ofNat 10), .int .u8 (.ofNat 9), .int .u8 (.ofNat 1)])))) = true := (join12 c69_0 (join12 c69_1 (join12 c69_2 c69_3)))
theorem c70_0 : (tells [.int .u8 (.ofNat 10), .int .u8 (.ofNat 10), .int .u8 (.ofNat 0)]) = true := by kernel_rfl
theorem c70_1 : (tells [.int .u8 (.ofNat 10), .int .u8 (.ofNat 10), .int .u8 (.ofNat 1)]) = true := by kernel_rfl
theorem c70_2 : (tells [.int .u8 (.ofNat 10), .int .u8 (.ofNat 11), .int .u8 (.ofNat 0)]) = true := by kernel_rfl
theorem c70_3 : (tells [.int .u8 (.ofNat 10), .int .u8 (.ofNat 11), .int .u8 (.ofNat 1)]) = true := by kernel_rfl
theorem c70 : (tells [.int .u8 (.ofNat 10), .int .u8 (.ofNat 10), .int .u8 (.ofNat 0)] && (tells [.int .u8 (.ofNat 10), .int .u8 (.ofNat 10), .int .u8 (.ofNat 1)] && (tells [.int .u8 (.ofNat 10), .int .u8 (.ofNat 11), .int .u8 (.ofNat 0)] && (tells [.int .u8 (.ofNat 10), .int .u8 (.ofNat 11), .int .u8 (.ofNat 1)])))) = true := (join12 c70_0 (join12 c70_1 (join12 c70_2 c70_3)))
theorem c71_0 : (tells [.int .u8 (.ofNat 10), .int .u8 (.ofNat 12), .int .u8 (.ofNat 0)]) = true := by kernel_rfl
theorem c71_1 : (tells [.int .u8 (.ofNat 10), .int .u8 (.ofNat 12), .int .u8 (.ofNat 1)]) = true := by kernel_rfl
theorem c71_2 : (tells [.int .u8 (.ofNat 11), .int .u8 (.ofNat 0), .int .u8 (.ofNat 0)]) = true := by kernel_rfl
theorem c71_3 : (tells [.int .u8 (.ofNat 11), .int .u8 (.ofNat 0), .int .u8 (.ofNat 1)]) = true := by kernel_rfl
theorem c71 : (tells [.int .u8 (.ofNat 10), .int .u8 (.ofNat 12), .int .u8 (.ofNat 0)] && (tells [.int .u8 (.ofNat 10), .int .u8 (.ofNat 12), .int .u8 (.ofNat 1)] && (tells [.int .u8 (.ofNat 11), .int .u8 (.ofNat 0), .int .u8 (.ofNat 0)] && (tells [.int .u8 (.ofNat 11), .int .u8 (.ofNat 0), .int .u8 (.ofNat 1)])))) = true := (join12 c71_0 (join12 c71_1 (join12 c71_2 c71_3)))
end Go.Proofs.YtpioabhlihabfaaGreat.typesMany
