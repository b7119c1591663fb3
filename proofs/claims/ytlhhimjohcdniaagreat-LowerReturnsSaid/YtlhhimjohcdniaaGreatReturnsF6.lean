/-
  The law LowerReturns: a call leaves what is told, part 7. Nothing is asked.
-/
import Derived.Test.YtlhhimjohcdniaaGreatReturnsE1
namespace Go.Proofs.YtlhhimjohcdniaaGreat.lowerReturns
open Go Go.Ag
set_option maxRecDepth 100000
theorem e6Ok : EntOk Tryz.prog e6 := entryOk (X := []) (usesOk_nil _) (by kernel_rfl)
end Go.Proofs.YtlhhimjohcdniaaGreat.lowerReturns
