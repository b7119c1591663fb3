/-
  The walk through the journal's code: what its functions do to memory, part FmD7. Nothing is asked.
-/
import Derived.Test.YtmfmbadfgnhonaaFmD6
set_option linter.all false
namespace Go.Proofs.Ytmfmbadfgnhonaa
open Go Go.Ag
set_option linter.unusedVariables false
set_option maxRecDepth 100000

end Go.Proofs.Ytmfmbadfgnhonaa

