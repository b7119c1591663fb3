/-
  The walk through the code of blocks and of what is reached, part L11: what its functions do to memory. Nothing is asked.
-/
import Derived.Test.YtgkdmnfmfcdfmaaLa10
set_option linter.all false
namespace Go.Proofs.Ytgkdmnfmfcdfmaa
open Go Go.Ag
set_option linter.unusedVariables false
set_option maxRecDepth 100000

/-- the instructions with which the i-th block ends (their k are blocks) -/
def tailL (b : Blk) (i : Nat) : List Op5 :=
  if b.e = 40 then [⟨40, 0, b.a, 0, 0⟩]
  else if b.e = 39 then ⟨39, 0, b.a, 0, b.t⟩ :: (if b.l = ((i + 1 : Nat) : Int) then [] else [⟨38, 0, 0, 0, b.l⟩])
  else if b.t = ((i + 1 : Nat) : Int) then [] else [⟨38, 0, 0, 0, b.t⟩]

end Go.Proofs.Ytgkdmnfmfcdfmaa

