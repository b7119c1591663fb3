/-
  The law LowerTells: at some inputs, part 1. Nothing is asked.
-/
import Derived.Test.YtlhhimjohcdniaaGreatTellsU
namespace Go.Proofs.YtlhhimjohcdniaaGreat.lowerTells
open Go Go.Ag
set_option maxRecDepth 100000
theorem c0 : (tells X0 [.bool false, .bool false, .bool false]) = true := by kernel_rfl
theorem c1 : (tells X1 [.bool false, .bool false, .bool true]) = true := by kernel_rfl
theorem c2 : (tells X2 [.bool false, .bool true, .bool false]) = true := by kernel_rfl
theorem c3 : (tells X3 [.bool false, .bool true, .bool true]) = true := by kernel_rfl
theorem c4 : (tells X4 [.bool true, .bool false, .bool false]) = true := by kernel_rfl
theorem c5 : (tells X5 [.bool true, .bool false, .bool true]) = true := by kernel_rfl
theorem c6 : (tells X6 [.bool true, .bool true, .bool false]) = true := by kernel_rfl
theorem c7 : (tells X7 [.bool true, .bool true, .bool true]) = true := by kernel_rfl
end Go.Proofs.YtlhhimjohcdniaaGreat.lowerTells
