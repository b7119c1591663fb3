/-
  The law LowerTells: some calls leave what is told, part 6. Nothing is asked.
-/
import Derived.Test.YtlhhimjohcdniaaGreatTellsE1
namespace Go.Proofs.YtlhhimjohcdniaaGreat.lowerTells
open Go Go.Ag
set_option maxRecDepth 100000
theorem e20Ok : EntOk Tryz.prog e20 := entryOk (by kernel_rfl)
theorem e21Ok : EntOk Tryz.prog e21 := entryOk (by kernel_rfl)
theorem e22Ok : EntOk Tryz.prog e22 := entryOk (by kernel_rfl)
theorem e23Ok : EntOk Tryz.prog e23 := entryOk (by kernel_rfl)
end Go.Proofs.YtlhhimjohcdniaaGreat.lowerTells
