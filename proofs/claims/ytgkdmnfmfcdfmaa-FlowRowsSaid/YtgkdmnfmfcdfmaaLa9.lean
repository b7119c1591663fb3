/-
  The walk through the code of blocks and of what is reached, part L9: what its functions do to memory. Nothing is asked.
-/
import Derived.Test.YtgkdmnfmfcdfmaaLa8
set_option linter.all false
namespace Go.Proofs.Ytgkdmnfmfcdfmaa
open Go Go.Ag
set_option linter.unusedVariables false
set_option maxRecDepth 100000

/-- what Reached tells -/
def ToldG (bs : List Blk) (S S' : MS) (v : Value) : Prop :=
  Old S S' ∧ ((¬ okG bs ∧ v = .tuple #[.slice none 0 0, .int .i64 100]) ∨ (okG bs ∧ ∃ ms b, VisG bs.length (nxG bs) ms [] ∧ S.n ≤ b ∧ S'.m b = some (.cells (ms.map .bool) 1) ∧ v = .tuple #[.slice (some ⟨b, 0, none⟩) bs.length bs.length, .int .i64 0]))

end Go.Proofs.Ytgkdmnfmfcdfmaa

