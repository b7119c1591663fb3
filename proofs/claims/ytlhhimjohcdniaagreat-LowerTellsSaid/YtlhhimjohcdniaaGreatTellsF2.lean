/-
  The law LowerTells: some calls leave what is told, part 3. Nothing is asked.
-/
import Derived.Test.YtlhhimjohcdniaaGreatTellsE1
namespace Go.Proofs.YtlhhimjohcdniaaGreat.lowerTells
open Go Go.Ag
set_option maxRecDepth 100000
theorem e8Ok : EntOk Tryz.prog e8 := entryOk (by kernel_rfl)
theorem e9Ok : EntOk Tryz.prog e9 := entryOk (by kernel_rfl)
theorem e10Ok : EntOk Tryz.prog e10 := entryOk (by kernel_rfl)
theorem e11Ok : EntOk Tryz.prog e11 := entryOk (by kernel_rfl)
end Go.Proofs.YtlhhimjohcdniaaGreat.lowerTells
