/-
  The law LowerOrder: some calls leave what is told, part 4. Nothing is asked.
-/
import Derived.Test.YtlhhimjohcdniaaGreatOrderE1
namespace Go.Proofs.YtlhhimjohcdniaaGreat.lowerOrder
open Go Go.Ag
set_option maxRecDepth 100000
theorem e9Ok : EntOk Tryz.prog e9 := entryOk (by kernel_rfl)
theorem e10Ok : EntOk Tryz.prog e10 := entryOk (by kernel_rfl)
theorem e11Ok : EntOk Tryz.prog e11 := entryOk (by kernel_rfl)
end Go.Proofs.YtlhhimjohcdniaaGreat.lowerOrder
