/-
  The law LowerCalls: some calls leave what is told, part 1. Nothing is asked.
-/
import Derived.Test.YtlhhimjohcdniaaGreatCallsE0
namespace Go.Proofs.YtlhhimjohcdniaaGreat.lowerCalls
open Go Go.Ag
set_option maxRecDepth 100000
theorem e0Ok : EntOk Tryz.prog e0 := entryOk (by kernel_rfl)
end Go.Proofs.YtlhhimjohcdniaaGreat.lowerCalls
