/-
  The law LowerTells: some calls leave what is told, part 2. Nothing is asked.
-/
import Derived.Test.YtlhhimjohcdniaaGreatTellsE1
namespace Go.Proofs.YtlhhimjohcdniaaGreat.lowerTells
open Go Go.Ag
set_option maxRecDepth 100000
theorem e4Ok : EntOk Tryz.prog e4 := entryOk (by kernel_rfl)
theorem e5Ok : EntOk Tryz.prog e5 := entryOk (by kernel_rfl)
theorem e6Ok : EntOk Tryz.prog e6 := entryOk (by kernel_rfl)
theorem e7Ok : EntOk Tryz.prog e7 := entryOk (by kernel_rfl)
end Go.Proofs.YtlhhimjohcdniaaGreat.lowerTells
