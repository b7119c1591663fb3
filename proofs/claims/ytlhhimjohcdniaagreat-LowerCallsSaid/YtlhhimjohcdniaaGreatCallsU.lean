/-
  The law LowerCalls: the tables of calls. Nothing is asked.
-/
import Derived.Test.YtlhhimjohcdniaaGreatCallsF0
import Derived.Test.YtlhhimjohcdniaaGreatCallsF1
import Derived.Test.YtlhhimjohcdniaaGreatCallsF2
import Derived.Test.YtlhhimjohcdniaaGreatCallsF3
namespace Go.Proofs.YtlhhimjohcdniaaGreat.lowerCalls
open Go Go.Ag
set_option maxRecDepth 100000
def X0 : List Use := [⟨e0, [0, 1]⟩, ⟨e1, [0, 1]⟩, ⟨e2, [0, 1, 1025]⟩, ⟨e3, [1, 1025, 3120, 3123, 3125, 3126, 3127, 3128, 3129, 3130, 3131]⟩]
theorem x0Ok : UsesOk Tryz.prog X0 := (usesOk_cons e0Ok (usesOk_cons e1Ok (usesOk_cons e2Ok (usesOk_cons e3Ok (usesOk_nil _)))))
end Go.Proofs.YtlhhimjohcdniaaGreat.lowerCalls
