/-
  The law LowerTells: some calls leave what is told, part 5. Nothing is asked.
-/
import Derived.Test.YtlhhimjohcdniaaGreatTellsE1
namespace Go.Proofs.YtlhhimjohcdniaaGreat.lowerTells
open Go Go.Ag
set_option maxRecDepth 100000
theorem e16Ok : EntOk Tryz.prog e16 := entryOk (by kernel_rfl)
theorem e17Ok : EntOk Tryz.prog e17 := entryOk (by kernel_rfl)
theorem e18Ok : EntOk Tryz.prog e18 := entryOk (by kernel_rfl)
theorem e19Ok : EntOk Tryz.prog e19 := entryOk (by kernel_rfl)
end Go.Proofs.YtlhhimjohcdniaaGreat.lowerTells
