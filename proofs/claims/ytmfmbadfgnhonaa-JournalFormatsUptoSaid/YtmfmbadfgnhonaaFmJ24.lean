/-
  The walk through the journal's code: what its functions do to memory, part FmJ24. Nothing is asked.
-/
import Derived.Test.YtmfmbadfgnhonaaFmJ23
set_option linter.all false
namespace Go.Proofs.Ytmfmbadfgnhonaa
open Go Go.Ag
set_option linter.unusedVariables false
set_option maxRecDepth 100000

/-- the writes of a Snapshot -/
def snapW (n half : Nat) (b : List UInt8) : List (Nat × List UInt8) := piecesN (laid b) (placeN n half) ++ [(0, headB half (laid b).length)]

end Go.Proofs.Ytmfmbadfgnhonaa

