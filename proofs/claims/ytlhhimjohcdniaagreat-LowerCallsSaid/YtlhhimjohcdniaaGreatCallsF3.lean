/-
  The law LowerCalls: some calls leave what is told, part 4. Nothing is asked.
-/
import Derived.Test.YtlhhimjohcdniaaGreatCallsE0
namespace Go.Proofs.YtlhhimjohcdniaaGreat.lowerCalls
open Go Go.Ag
set_option maxRecDepth 100000
theorem e3Ok : EntOk Tryz.prog e3 := entryOk (by kernel_rfl)
end Go.Proofs.YtlhhimjohcdniaaGreat.lowerCalls
