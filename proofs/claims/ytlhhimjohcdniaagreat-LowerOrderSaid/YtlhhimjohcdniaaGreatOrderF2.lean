/-
  The law LowerOrder: some calls leave what is told, part 3. Nothing is asked.
-/
import Derived.Test.YtlhhimjohcdniaaGreatOrderE1
namespace Go.Proofs.YtlhhimjohcdniaaGreat.lowerOrder
open Go Go.Ag
set_option maxRecDepth 100000
theorem e6Ok : EntOk Tryz.prog e6 := entryOk (by kernel_rfl)
theorem e7Ok : EntOk Tryz.prog e7 := entryOk (by kernel_rfl)
theorem e8Ok : EntOk Tryz.prog e8 := entryOk (by kernel_rfl)
end Go.Proofs.YtlhhimjohcdniaaGreat.lowerOrder
