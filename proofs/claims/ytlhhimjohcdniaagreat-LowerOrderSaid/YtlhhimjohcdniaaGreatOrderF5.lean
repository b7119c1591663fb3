/-
  The law LowerOrder: some calls leave what is told, part 6. Nothing is asked.
-/
import Derived.Test.YtlhhimjohcdniaaGreatOrderE1
namespace Go.Proofs.YtlhhimjohcdniaaGreat.lowerOrder
open Go Go.Ag
set_option maxRecDepth 100000
theorem e15Ok : EntOk Tryz.prog e15 := entryOk (by kernel_rfl)
theorem e16Ok : EntOk Tryz.prog e16 := entryOk (by kernel_rfl)
theorem e17Ok : EntOk Tryz.prog e17 := entryOk (by kernel_rfl)
end Go.Proofs.YtlhhimjohcdniaaGreat.lowerOrder
