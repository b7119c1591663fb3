/-
  The law LowerTells: the tables of calls. Nothing is asked.
-/
import Derived.Test.YtlhhimjohcdniaaGreatTellsF0
import Derived.Test.YtlhhimjohcdniaaGreatTellsF1
import Derived.Test.YtlhhimjohcdniaaGreatTellsF2
import Derived.Test.YtlhhimjohcdniaaGreatTellsF3
import Derived.Test.YtlhhimjohcdniaaGreatTellsF4
import Derived.Test.YtlhhimjohcdniaaGreatTellsF5
import Derived.Test.YtlhhimjohcdniaaGreatTellsF6
import Derived.Test.YtlhhimjohcdniaaGreatTellsF7
namespace Go.Proofs.YtlhhimjohcdniaaGreat.lowerTells
open Go Go.Ag
set_option maxRecDepth 100000
def X0 : List Use := [⟨e0, [1]⟩, ⟨e1, [1]⟩, ⟨e2, [1]⟩, ⟨e3, [1]⟩]
theorem x0Ok : UsesOk Tryz.prog X0 := (usesOk_cons e0Ok (usesOk_cons e1Ok (usesOk_cons e2Ok (usesOk_cons e3Ok (usesOk_nil _)))))
def X1 : List Use := [⟨e4, [1]⟩, ⟨e5, [1]⟩, ⟨e6, [1]⟩, ⟨e7, [1]⟩]
theorem x1Ok : UsesOk Tryz.prog X1 := (usesOk_cons e4Ok (usesOk_cons e5Ok (usesOk_cons e6Ok (usesOk_cons e7Ok (usesOk_nil _)))))
def X2 : List Use := [⟨e8, [1]⟩, ⟨e9, [1]⟩, ⟨e10, [1]⟩, ⟨e11, [1]⟩]
theorem x2Ok : UsesOk Tryz.prog X2 := (usesOk_cons e8Ok (usesOk_cons e9Ok (usesOk_cons e10Ok (usesOk_cons e11Ok (usesOk_nil _)))))
def X3 : List Use := [⟨e12, [1]⟩, ⟨e13, [1]⟩, ⟨e14, [1]⟩, ⟨e15, [1]⟩]
theorem x3Ok : UsesOk Tryz.prog X3 := (usesOk_cons e12Ok (usesOk_cons e13Ok (usesOk_cons e14Ok (usesOk_cons e15Ok (usesOk_nil _)))))
def X4 : List Use := [⟨e16, [1]⟩, ⟨e17, [1]⟩, ⟨e18, [1]⟩, ⟨e19, [1]⟩]
theorem x4Ok : UsesOk Tryz.prog X4 := (usesOk_cons e16Ok (usesOk_cons e17Ok (usesOk_cons e18Ok (usesOk_cons e19Ok (usesOk_nil _)))))
def X5 : List Use := [⟨e20, [1]⟩, ⟨e21, [1]⟩, ⟨e22, [1]⟩, ⟨e23, [1]⟩]
theorem x5Ok : UsesOk Tryz.prog X5 := (usesOk_cons e20Ok (usesOk_cons e21Ok (usesOk_cons e22Ok (usesOk_cons e23Ok (usesOk_nil _)))))
def X6 : List Use := [⟨e24, [1]⟩, ⟨e25, [1]⟩, ⟨e26, [1]⟩, ⟨e27, [1]⟩]
theorem x6Ok : UsesOk Tryz.prog X6 := (usesOk_cons e24Ok (usesOk_cons e25Ok (usesOk_cons e26Ok (usesOk_cons e27Ok (usesOk_nil _)))))
def X7 : List Use := [⟨e28, [1]⟩, ⟨e29, [1]⟩, ⟨e30, [1]⟩, ⟨e31, [1]⟩]
theorem x7Ok : UsesOk Tryz.prog X7 := (usesOk_cons e28Ok (usesOk_cons e29Ok (usesOk_cons e30Ok (usesOk_cons e31Ok (usesOk_nil _)))))
end Go.Proofs.YtlhhimjohcdniaaGreat.lowerTells
