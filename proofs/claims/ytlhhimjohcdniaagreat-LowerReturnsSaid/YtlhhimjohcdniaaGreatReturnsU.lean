/-
  The law LowerReturns: the tables of calls. Nothing is asked.
-/
import Derived.Test.YtlhhimjohcdniaaGreatReturnsF0
import Derived.Test.YtlhhimjohcdniaaGreatReturnsF1
import Derived.Test.YtlhhimjohcdniaaGreatReturnsF2
import Derived.Test.YtlhhimjohcdniaaGreatReturnsF3
import Derived.Test.YtlhhimjohcdniaaGreatReturnsF4
import Derived.Test.YtlhhimjohcdniaaGreatReturnsF5
import Derived.Test.YtlhhimjohcdniaaGreatReturnsF6
namespace Go.Proofs.YtlhhimjohcdniaaGreat.lowerReturns
open Go Go.Ag
set_option maxRecDepth 100000
def X0 : List Use := [⟨e0, [0, 1]⟩, ⟨e1, [0, 1]⟩, ⟨e5, [0, 1, 2205, 2881]⟩, ⟨e6, [0, 1, 2205, 2881, 8149, 8152, 8153, 8155, 8157, 8158, 8159, 8160, 8161, 8162, 8163]⟩]
theorem x0Ok : UsesOk Tryz.prog X0 := (usesOk_cons e0Ok (usesOk_cons e1Ok (usesOk_cons e5Ok (usesOk_cons e6Ok (usesOk_nil _)))))
end Go.Proofs.YtlhhimjohcdniaaGreat.lowerReturns
