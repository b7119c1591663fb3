/-
  The walk through LowerLoops: what its functions do to memory, part VnF9. Nothing is asked.
-/
import Derived.Test.YtfgbeecipklkdaaGreatVnE
set_option linter.all false
namespace Go.Proofs.YtfgbeecipklkdaaGreat
open Go Go.Ag
set_option maxRecDepth 100000
theorem e9B : entMB Tryz.prog tab gl1 [138, 140] 200 300 0 e9 = true := by kernel_rfl
theorem e9Ok : EntMOk Tryz.prog e9 := entM_ok mix tabs gl1Ok (by rw [globs]; exact e9B)
end Go.Proofs.YtfgbeecipklkdaaGreat

