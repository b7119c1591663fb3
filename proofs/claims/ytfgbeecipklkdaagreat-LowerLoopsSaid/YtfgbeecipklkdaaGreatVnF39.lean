/-
  The walk through LowerLoops: what its functions do to memory, part VnF39. Nothing is asked.
-/
import Derived.Test.YtfgbeecipklkdaaGreatVnE
set_option linter.all false
namespace Go.Proofs.YtfgbeecipklkdaaGreat
open Go Go.Ag
set_option maxRecDepth 100000
theorem e39B : entMB Tryz.prog tab gl1 [138, 140] 200 300 0 e39 = true := by kernel_rfl
theorem e39Ok : EntMOk Tryz.prog e39 := entM_ok mix tabs gl1Ok (by rw [globs]; exact e39B)
end Go.Proofs.YtfgbeecipklkdaaGreat

