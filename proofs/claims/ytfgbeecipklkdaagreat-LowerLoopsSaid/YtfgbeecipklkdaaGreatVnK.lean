/-
  The walk through LowerLoops: what its functions do to memory, part VnK. Nothing is asked.
-/
import Derived.Test.YtfgbeecipklkdaaGreatVnT
set_option linter.all false
namespace Go.Proofs.YtfgbeecipklkdaaGreat
open Go Go.Ag
set_option maxRecDepth 100000
theorem knownRun : isV (.bool true) ((fnG Tryz.prog tab 6).f (Km Tryz.prog tab gl1 [138, 140] 200 300) [] nothing) = true := by kernel_rfl
theorem knownKnows : Knows Tryz.prog 6 [] (.bool true) := by
  obtain ⟨A, h⟩ := isV_some knownRun
  exact quick_start mix tabs gl1Ok (by rw [start]; exact h) rfl rfl rfl rfl
end Go.Proofs.YtfgbeecipklkdaaGreat

