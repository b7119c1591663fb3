/-
  The walk through the journal's code: what its functions do to memory, part FmD1. Nothing is asked.
-/
import Derived.Test.YtmfmbadfgnhonaaFmW
set_option linter.all false
namespace Go.Proofs.Ytmfmbadfgnhonaa
open Go Go.Ag
set_option linter.unusedVariables false
set_option maxRecDepth 100000

def O : Known := fun f args => if f = 7 ∧ args = [] then some (.bool true) else none
theorem O_none {f : FuncId} {args : List Value} (h : f ≠ 7) : O f args = none := by unfold O; rw [if_neg (fun e => h e.1)]

/-- a disk's struct -/
def diskL (made now writes : Value) (halt : Int) (cut : Bool) : List Value := [made, now, writes, .int .i64 halt, .bool cut]

end Go.Proofs.Ytmfmbadfgnhonaa

