/-
  The walk through the code of blocks and of what is reached, part L23: what its functions do to memory. Nothing is asked.
-/
import Derived.Test.YtgkdmnfmfcdfmaaLa22
set_option linter.all false
namespace Go.Proofs.Ytgkdmnfmfcdfmaa
open Go Go.Ag
set_option linter.unusedVariables false
set_option maxRecDepth 100000

/-! ### the argument's reading -/
section
variable {H : Type} {S : MS}
end
end Go.Proofs.Ytgkdmnfmfcdfmaa

