/-
  The law LowerOrder: some calls leave what is told, part 5. Nothing is asked.
-/
import Derived.Test.YtlhhimjohcdniaaGreatOrderE1
namespace Go.Proofs.YtlhhimjohcdniaaGreat.lowerOrder
open Go Go.Ag
set_option maxRecDepth 100000
theorem e12Ok : EntOk Tryz.prog e12 := entryOk (by kernel_rfl)
theorem e13Ok : EntOk Tryz.prog e13 := entryOk (by kernel_rfl)
theorem e14Ok : EntOk Tryz.prog e14 := entryOk (by kernel_rfl)
end Go.Proofs.YtlhhimjohcdniaaGreat.lowerOrder
