/-
  The law InlineDepth: the tables of calls. Nothing is asked.
-/
import Derived.Test.YtlhhimjohcdniaaGreatDepthF0
import Derived.Test.YtlhhimjohcdniaaGreatDepthF1
import Derived.Test.YtlhhimjohcdniaaGreatDepthF2
import Derived.Test.YtlhhimjohcdniaaGreatDepthF3
import Derived.Test.YtlhhimjohcdniaaGreatDepthF4
namespace Go.Proofs.YtlhhimjohcdniaaGreat.inlineDepth
open Go Go.Ag
set_option maxRecDepth 100000
def X0 : List Use := [⟨e0, []⟩, ⟨e1, []⟩, ⟨e2, [5555]⟩, ⟨e3, [5555, 5978, 6261]⟩, ⟨e4, [5555, 7413, 7414, 7416, 7418, 7419, 7420, 7421, 7422, 7423, 7424]⟩]
theorem x0Ok : UsesOk Tryz.prog X0 := (usesOk_cons e0Ok (usesOk_cons e1Ok (usesOk_cons e2Ok (usesOk_cons e3Ok (usesOk_cons e4Ok (usesOk_nil _))))))
end Go.Proofs.YtlhhimjohcdniaaGreat.inlineDepth
