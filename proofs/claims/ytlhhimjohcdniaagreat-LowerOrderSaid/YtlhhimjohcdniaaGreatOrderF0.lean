/-
  The law LowerOrder: some calls leave what is told, part 1. Nothing is asked.
-/
import Derived.Test.YtlhhimjohcdniaaGreatOrderE1
namespace Go.Proofs.YtlhhimjohcdniaaGreat.lowerOrder
open Go Go.Ag
set_option maxRecDepth 100000
theorem e0Ok : EntOk Tryz.prog e0 := entryOk (by kernel_rfl)
theorem e1Ok : EntOk Tryz.prog e1 := entryOk (by kernel_rfl)
theorem e2Ok : EntOk Tryz.prog e2 := entryOk (by kernel_rfl)
end Go.Proofs.YtlhhimjohcdniaaGreat.lowerOrder
