/-
  The law TypesMany at some numbers, part 14. Nothing is asked.
-/
import Derived.Test.YtpioabhlihabfaaGreatManyT
namespace Go.Proofs.YtpioabhlihabfaaGreat.typesMany
open Go Go.Ag
set_option maxRecDepth 100000
theorem join14 {a b : Bool} (h : a = true) (k : b = true) : (a && b) = true := by rw [h, k]; rfl
theorem c78_0 : (tells [.int .u8 (.ofNat 12), .int .u8 (.ofNat 0), .int .u8 (.ofNat 0)]) = true := by kernel_rfl
theorem c78_1 : (tells [.int .u8 (.ofNat 12), .int .u8 (.ofNat 0), .int .u8 (.ofNat 1)]) = true := by kernel_rfl
theorem c78_2 : (tells [.int .u8 (.ofNat 12), .int .u8 (.ofNat 1), .int .u8 (.ofNat 0)]) = true := by kernel_rfl
theorem c78_3 : (tells [.int .u8 (.ofNat 12), .int .u8 (.ofNat 1), .int .u8 (.ofNat 1)]) = true := by kernel_rfl
theorem c78 : (tells [.int .u8 (.ofNat 12), .int .u8 (.ofNat 0), .int .u8 (.ofNat 0)] && (tells [.int .u8 (.ofNat 12), .int .u8 (.ofNat 0), .int .u8 (.ofNat 1)] && (tells [.int .u8 (.ofNat 12), .int .u8 (.ofNat 1), .int .u8 (.ofNat 0)] && (tells [.int .u8 (.ofNat 12), .int .u8 (.ofNat 1), .int .u8 (.ofNat 1)])))) = true := (join14 c78_0 (join14 c78_1 (join14 c78_2 c78_3)))
theorem c79_0 : (tells [.int .u8 (.ofNat 12), .int .u8 (.ofNat 2), .int .u8 (.ofNat 0)]) = true := by kernel_rfl
theorem c79_1 : (tells [.int .u8 (.ofNat 12), .int .u8 (.ofNat 2), .int .u8 (.ofNat 1)]) = true := by kernel_rfl
theorem c79_2 : (tells [.int .u8 (.ofNat 12), .int .u8 (.ofNat 3), .int .u8 (.ofNat 0)]) = true := by kernel_rfl
theorem c79_3 : (tells [.int .u8 (.ofNat 12), .int .u8 (.ofNat 3), .int .u8 (.ofNat 1)]) = true := by kernel_rfl
theorem c79 : (tells [.int .u8 (.ofNat 12), .int .u8 (.ofNat 2), .int .u8 (.ofNat 0)] && (tells [.int .u8 (.ofNat 12), .int .u8 (.ofNat 2), .int .u8 (.ofNat 1)] && (tells [.int .u8 (.ofNat 12), .int .u8 (.ofNat 3), .int .u8 (.ofNat 0)] && (tells [.int .u8 (.ofNat 12), .int .u8 (.ofNat 3), .int .u8 (.ofNat 1)])))) = true := (join14 c79_0 (join14 c79_1 (join14 c79_2 c79_3)))
theorem c80_0 : (tells [.int .u8 (.ofNat 12), .int .u8 (.ofNat 4), .int .u8 (.ofNat 0)]) = true := by kernel_rfl
theorem c80_1 : (tells [.int .u8 (.ofNat 12), .int .u8 (.ofNat 4), .int .u8 (.ofNat 1)]) = true := by kernel_rfl
theorem c80_2 : (tells [.int .u8 (.ofNat 12), .int .u8 (.ofNat 5), .int .u8 (.ofNat 0)]) = true := by kernel_rfl
theorem c80_3 : (tells [.int .u8 (.ofNat 12), .int .u8 (.ofNat 5), .int .u8 (.ofNat 1)]) = true := by kernel_rfl
theorem c80 : (tells [.int .u8 (.ofNat 12), .int .u8 (.ofNat 4), .int .u8 (.ofNat 0)] && (tells [.int .u8 (.ofNat 12), .int .u8 (.ofNat 4), .int .u8 (.ofNat 1)] && (tells [.int .u8 (.ofNat 12), .int .u8 (.ofNat 5), .int .u8 (.ofNat 0)] && (tells [.int .u8 (.ofNat 12), .int .u8 (.ofNat 5), .int .u8 (.ofNat 1)])))) = true := (join14 c80_0 (join14 c80_1 (join14 c80_2 c80_3)))
theorem c81_0 : (tells [.int .u8 (.ofNat 12), .int .u8 (.ofNat 6), .int .u8 (.ofNat 0)]) = true := by kernel_rfl
theorem c81_1 : (tells [.int .u8 (.ofNat 12), .int .u8 (.ofNat 6), .int .u8 (.ofNat 1)]) = true := by kernel_rfl
theorem c81_2 : (tells [.int .u8 (.ofNat 12), .int .u8 (.ofNat 7), .int .u8 (.ofNat 0)]) = true := by kernel_rfl
theorem c81_3 : (tells [.int .u8 (.ofNat 12), .int .u8 (.ofNat 7), .int .u8 (.ofNat 1)]) = true := by kernel_rfl
theorem c81 : (tells [.int .u8 (.ofNat 12), .int .u8 (.ofNat 6), .int .u8 (.ofNat 0)] && (tells [.int .u8 (.ofNat 12), .int .u8 (.ofNat 6), .int .u8 (.ofNat 1)] && (tells [.int .u8 (.ofNat 12), .int .u8 (.ofNat 7), .int .u8 (.ofNat 0)] && (tells [.int .u8 (.ofNat 12), .int .u8 (.ofNat 7), .int .u8 (.ofNat 1)])))) = true := (join14 c81_0 (join14 c81_1 (join14 c81_2 c81_3)))
theorem c82_0 : (tells [.int .u8 (.ofNat 12), .int .u8 (.ofNat 8), .int .u8 (.ofNat 0)]) = true := by kernel_rfl
theorem c82_1 : (tells [.int .u8 (.ofNat 12), .int .u8 (.ofNat 8), .int .u8 (.ofNat 1)]) = true := by kernel_rfl
theorem c82_2 : (tells [.int .u8 (.ofNat 12), .int .u8 (.ofNat 9), .int .u8 (.ofNat 0)]) = true := by kernel_rfl
theorem c82_3 : (tells [.int .u8 (.ofNat 12), .int .u8 (.ofNat 9), .int .u8 (.ofNat 1)]) = true := by kernel_rfl
theorem c82 : (tells [.int .u8 (.ofNat 12), .int .u8 (.ofNat 8), .int .u8 (.ofNat 0)] && (tells [.int .u8 (.ofNat 12), .int .u8 (.ofNat 8), .int .u8 (.ofNat 1)] && (tells [.int .u8 (.ofNat 12), .int .u8 (.ofNat 9), .int .u8 (.ofNat 0)] && (tells [.int .u8 (.ofNat 12), .int .u8 (.ofNat 9), .int .u8 (.ofNat 1)])))) = true := (join14 c82_0 (join14 c82_1 (join14 c82_2 c82_3)))
theorem c83_0 : (tells [.int .u8 (.ofNat 12), .int .u8 (.ofNat 10), .int .u8 (.ofNat 0)]) = true := by kernel_rfl
theorem c83_1 : (tells [.int .u8 (.ofNat 12), .int .u8 (.ofNat 10), .int .u8 (.ofNat 1)]) = true := by kernel_rfl
theorem c83_2 : (tells [.int .u8 (.ofNat 12), .int .u8 (.ofNat 11), .int .u8 (.ofNat 0)]) = true := by kernel_rfl
theorem c83_3 : (tells [.int .u8 (.ofNat 12), .int .u8 (.ofNat 11), .int .u8 (.ofNat 1)]) = true := by kernel_rfl
theorem c83 : (tells [.int .u8 (.ofNat 12), .int .u8 (.ofNat 10), .int .u8 (.ofNat 0)] && (tells [.int .u8 (.ofNat 12), .int .u8 (.ofNat 10), .int .u8 (.ofNat 1)] && (tells [.int .u8 (.ofNat 12), .int .u8 (.ofNat 11), .int .u8 (.ofNat 0)] && (tells [.int .u8 (.ofNat 12), .int .u8 (.ofNat 11), .int .u8 (.ofNat 1)])))) = true := (join14 c83_0 (join14 c83_1 (join14 c83_2 c83_3)))
end Go.Proofs.YtpioabhlihabfaaGreat.typesMany
