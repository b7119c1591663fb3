/-
  The law LowerReturns: a call leaves what is told, part 2. Nothing is asked.
-/
import Derived.Test.YtlhhimjohcdniaaGreatReturnsE1
import Derived.Test.YtlhhimjohcdniaaGreatReturnsF2
import Derived.Test.YtlhhimjohcdniaaGreatReturnsF3
import Derived.Test.YtlhhimjohcdniaaGreatReturnsF4
namespace Go.Proofs.YtlhhimjohcdniaaGreat.lowerReturns
open Go Go.Ag
set_option maxRecDepth 100000
theorem e1Ok : EntOk Tryz.prog e1 := entryOk (X := [⟨e2, [1278, 1279]⟩, ⟨e3, [1279, 2166, 2205, 2881]⟩, ⟨e4, [1279, 2166, 2185, 2205, 2208, 2229, 2257, 2303, 2323, 2336, 2346, 2377, 2412, 2427, 2450, 2485, 2504, 2520, 2530, 2566, 2734, 2748, 2829, 2876, 2881, 2905, 2910, 2922, 2990, 3005, 3156, 3161, 3194]⟩]) (usesOk_cons e2Ok (usesOk_cons e3Ok (usesOk_cons e4Ok (usesOk_nil _)))) (by kernel_rfl)
end Go.Proofs.YtlhhimjohcdniaaGreat.lowerReturns
