/-
  The law LowerOrder: some calls leave what is told, part 7. Nothing is asked.
-/
import Derived.Test.YtlhhimjohcdniaaGreatOrderE1
namespace Go.Proofs.YtlhhimjohcdniaaGreat.lowerOrder
open Go Go.Ag
set_option maxRecDepth 100000
theorem e18Ok : EntOk Tryz.prog e18 := entryOk (by kernel_rfl)
theorem e19Ok : EntOk Tryz.prog e19 := entryOk (by kernel_rfl)
end Go.Proofs.YtlhhimjohcdniaaGreat.lowerOrder
