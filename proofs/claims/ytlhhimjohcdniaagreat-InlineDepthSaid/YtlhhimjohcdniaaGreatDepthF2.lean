/-
  The law InlineDepth: some calls leave what is told, part 3. Nothing is asked.
-/
import Derived.Test.YtlhhimjohcdniaaGreatDepthE0
namespace Go.Proofs.YtlhhimjohcdniaaGreat.inlineDepth
open Go Go.Ag
set_option maxRecDepth 100000
theorem e2Ok : EntOk Tryz.prog e2 := entryOk (by kernel_rfl)
end Go.Proofs.YtlhhimjohcdniaaGreat.inlineDepth
