/-
  The law LowerTells: some calls leave what is told, part 7. Nothing is asked.
-/
import Derived.Test.YtlhhimjohcdniaaGreatTellsE1
namespace Go.Proofs.YtlhhimjohcdniaaGreat.lowerTells
open Go Go.Ag
set_option maxRecDepth 100000
theorem e24Ok : EntOk Tryz.prog e24 := entryOk (by kernel_rfl)
theorem e25Ok : EntOk Tryz.prog e25 := entryOk (by kernel_rfl)
theorem e26Ok : EntOk Tryz.prog e26 := entryOk (by kernel_rfl)
theorem e27Ok : EntOk Tryz.prog e27 := entryOk (by kernel_rfl)
end Go.Proofs.YtlhhimjohcdniaaGreat.lowerTells
