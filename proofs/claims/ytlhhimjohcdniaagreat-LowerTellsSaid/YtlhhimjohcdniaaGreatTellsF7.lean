/-
  The law LowerTells: some calls leave what is told, part 8. Nothing is asked.
-/
import Derived.Test.YtlhhimjohcdniaaGreatTellsE1
namespace Go.Proofs.YtlhhimjohcdniaaGreat.lowerTells
open Go Go.Ag
set_option maxRecDepth 100000
theorem e28Ok : EntOk Tryz.prog e28 := entryOk (by kernel_rfl)
theorem e29Ok : EntOk Tryz.prog e29 := entryOk (by kernel_rfl)
theorem e30Ok : EntOk Tryz.prog e30 := entryOk (by kernel_rfl)
theorem e31Ok : EntOk Tryz.prog e31 := entryOk (by kernel_rfl)
end Go.Proofs.YtlhhimjohcdniaaGreat.lowerTells
