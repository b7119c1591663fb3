/-
  The law TypesMany at some numbers, part 13. Nothing is asked.
-/
import Derived.Test.YtpioabhlihabfaaGreatManyT
namespace Go.Proofs.YtpioabhlihabfaaGreat.typesMany
open Go Go.Ag
set_option maxRecDepth 100000
theorem join13 {a b : Bool} (h : a = true) (k : b = true) : (a && b) = true := by rw [h, k]; rfl
theorem c72_0 : (tells [.int .u8 (.ofNat 11), .int .u8 (.ofNat 1), .int .u8 (.ofNat 0)]) = true := by kernel_rfl
theorem c72_1 : (tells [.int .u8 (.ofNat 11), .int .u8 (.ofNat 1), .int .u8 (.ofNat 1)]) = true := by kernel_rfl
theorem c72_2 : (tells [.int .u8 (.ofNat 11), .int .u8 (.ofNat 2), .int .u8 (.ofNat 0)]) = true := by kernel_rfl
theorem c72_3 : (tells [.int .u8 (.ofNat 11), .int .u8 (.ofNat 2), .int .u8 (.ofNat 1)]) = true := by kernel_rfl
theorem c72 : (tells [.int .u8 (.ofNat 11), .int .u8 (.ofNat 1), .int .u8 (.ofNat 0)] && (tells [.int .u8 (.ofNat 11), .int .u8 (.ofNat 1), .int .u8 (.ofNat 1)] && (tells [.int .u8 (.ofNat 11), .int .u8 (.ofNat 2), .int .u8 (.ofNat 0)] && (tells [.int .u8 (.ofNat 11), .int .u8 (.ofNat 2), .int .u8 (.ofNat 1)])))) = true := (join13 c72_0 (join13 c72_1 (join13 c72_2 c72_3)))
theorem c73_0 : (tells [.int .u8 (.ofNat 11), .int .u8 (.ofNat 3), .int .u8 (.ofNat 0)]) = true := by kernel_rfl
theorem c73_1 : (tells [.int .u8 (.ofNat 11), .int .u8 (.ofNat 3), .int .u8 (.ofNat 1)]) = true := by kernel_rfl
theorem c73_2 : (tells [.int .u8 (.ofNat 11), .int .u8 (.ofNat 4), .int .u8 (.ofNat 0)]) = true := by kernel_rfl
theorem c73_3 : (tells [.int .u8 (.ofNat 11), .int .u8 (.ofNat 4), .int .u8 (.ofNat 1)]) = true := by kernel_rfl
theorem c73 : (tells [.int .u8 (.ofNat 11), .int .u8 (.ofNat 3), .int .u8 (.ofNat 0)] && (tells [.int .u8 (.ofNat 11), .int .u8 (.ofNat 3), .int .u8 (.ofNat 1)] && (tells [.int .u8 (.ofNat 11), .int .u8 (.ofNat 4), .int .u8 (.ofNat 0)] && (tells [.int .u8 (.ofNat 11), .int .u8 (.ofNat 4), .int .u8 (.ofNat 1)])))) = true := (join13 c73_0 (join13 c73_1 (join13 c73_2 c73_3)))
theorem c74_0 : (tells [.int .u8 (.ofNat 11), .int .u8 (.ofNat 5), .int .u8 (.ofNat 0)]) = true := by kernel_rfl
theorem c74_1 : (tells [.int .u8 (.ofNat 11), .int .u8 (.ofNat 5), .int .u8 (.ofNat 1)]) = true := by kernel_rfl
theorem c74_2 : (tells [.int .u8 (.ofNat 11), .int .u8 (.ofNat 6), .int .u8 (.ofNat 0)]) = true := by kernel_rfl
theorem c74_3 : (tells [.int .u8 (.ofNat 11), .int .u8 (.ofNat 6), .int .u8 (.ofNat 1)]) = true := by kernel_rfl
theorem c74 : (tells [.int .u8 (.ofNat 11), .int .u8 (.ofNat 5), .int .u8 (.ofNat 0)] && (tells [.int .u8 (.ofNat 11), .int .u8 (.ofNat 5), .int .u8 (.ofNat 1)] && (tells [.int .u8 (.ofNat 11), .int .u8 (.ofNat 6), .int .u8 (.ofNat 0)] && (tells [.int .u8 (.ofNat 11), .int .u8 (.ofNat 6), .int .u8 (.ofNat 1)])))) = true := (join13 c74_0 (join13 c74_1 (join13 c74_2 c74_3)))
theorem c75_0 : (tells [.int .u8 (.ofNat 11), .int .u8 (.ofNat 7), .int .u8 (.ofNat 0)]) = true := by kernel_rfl
theorem c75_1 : (tells [.int .u8 (.ofNat 11), .int .u8 (.ofNat 7), .int .u8 (.ofNat 1)]) = true := by kernel_rfl
theorem c75_2 : (tells [.int .u8 (.ofNat 11), .int .u8 (.ofNat 8), .int .u8 (.ofNat 0)]) = true := by kernel_rfl
theorem c75_3 : (tells [.int .u8 (.ofNat 11), .int .u8 (.ofNat 8), .int .u8 (.ofNat 1)]) = true := by kernel_rfl
theorem c75 : (tells [.int .u8 (.ofNat 11), .int .u8 (.ofNat 7), .int .u8 (.ofNat 0)] && (tells [.int .u8 (.ofNat 11), .int .u8 (.ofNat 7), .int .u8 (.ofNat 1)] && (tells [.int .u8 (.ofNat 11), .int .u8 (.ofNat 8), .int .u8 (.ofNat 0)] && (tells [.int .u8 (.ofNat 11), .int .u8 (.ofNat 8), .int .u8 (.ofNat 1)])))) = true := (join13 c75_0 (join13 c75_1 (join13 c75_2 c75_3)))
theorem c76_0 : (tells [.int .u8 (.ofNat 11), .int .u8 (.ofNat 9), .int .u8 (.ofNat 0)]) = true := by kernel_rfl
theorem c76_1 : (tells [.int .u8 (.ofNat 11), .int .u8 (.ofNat 9), .int .u8 (.ofNat 1)]) = true := by kernel_rfl
theorem c76_2 : (tells [.int .u8 (.ofNat 11), .int .u8 (.ofNat 10), .int .u8 (.ofNat 0)]) = true := by kernel_rfl
theorem c76_3 : (tells [.int .u8 (.ofNat 11), .int .u8 (.ofNat 10), .int .u8 (.ofNat 1)]) = true := by kernel_rfl
theorem c76 : (tells [.int .u8 (.ofNat 11), .int .u8 (.ofNat 9), .int .u8 (.ofNat 0)] && (tells [.int .u8 (.ofNat 11), .int .u8 (.ofNat 9), .int .u8 (.ofNat 1)] && (tells [.int .u8 (.ofNat 11), .int .u8 (.ofNat 10), .int .u8 (.ofNat 0)] && (tells [.int .u8 (.ofNat 11), .int .u8 (.ofNat 10), .int .u8 (.ofNat 1)])))) = true := (join13 c76_0 (join13 c76_1 (join13 c76_2 c76_3)))
theorem c77_0 : (tells [.int .u8 (.ofNat 11), .int .u8 (.ofNat 11), .int .u8 (.ofNat 0)]) = true := by kernel_rfl
theorem c77_1 : (tells [.int .u8 (.ofNat 11), .int .u8 (.ofNat 11), .int .u8 (.ofNat 1)]) = true := by kernel_rfl
theorem c77_2 : (tells [.int .u8 (.ofNat 11), .int .u8 (.ofNat 12), .int .u8 (.ofNat 0)]) = true := by kernel_rfl
theorem c77_3 : (tells [.int .u8 (.ofNat 11), .int .u8 (.ofNat 12), .int .u8 (.ofNat 1)]) = true := by kernel_rfl
theorem c77 : (tells [.int .u8 (.ofNat 11), .int .u8 (.ofNat 11), .int .u8 (.ofNat 0)] && (tells [.int .u8 (.ofNat 11), .int .u8 (.ofNat 11), .int .u8 (.ofNat 1)] && (tells [.int .u8 (.ofNat 11), .int .u8 (.ofNat 12), .int .u8 (.ofNat 0)] && (tells [.int .u8 (.ofNat 11), .int .u8 (.ofNat 12), .int .u8 (.ofNat 1)])))) = true := (join13 c77_0 (join13 c77_1 (join13 c77_2 c77_3)))
end Go.Proofs.YtpioabhlihabfaaGreat.typesMany
