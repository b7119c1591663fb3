/-
  The law LowerOrder: some calls leave what is told, part 2. Nothing is asked.
-/
import Derived.Test.YtlhhimjohcdniaaGreatOrderE1
namespace Go.Proofs.YtlhhimjohcdniaaGreat.lowerOrder
open Go Go.Ag
set_option maxRecDepth 100000
theorem e3Ok : EntOk Tryz.prog e3 := entryOk (by kernel_rfl)
theorem e4Ok : EntOk Tryz.prog e4 := entryOk (by kernel_rfl)
theorem e5Ok : EntOk Tryz.prog e5 := entryOk (by kernel_rfl)
end Go.Proofs.YtlhhimjohcdniaaGreat.lowerOrder
