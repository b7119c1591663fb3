/-
  The walk through the journal's code: what its functions do to memory, part PyD3. Nothing is asked.
-/
import Derived.Test.YtmfmbadfgnhonaaPyD2
set_option linter.all false
namespace Go.Proofs.Ytmfmbadfgnhonaa
open Go Go.Ag
set_option linter.unusedVariables false
set_option maxRecDepth 100000

end Go.Proofs.Ytmfmbadfgnhonaa
namespace Go.Proofs.Ytmfmbadfgnhonaa
open Go Go.Ag
set_option linter.unusedVariables false
set_option maxRecDepth 100000

/-- blocks behind writes -/
def applyW (m : List (Option Nat)) (ws : List (Nat × Nat)) : List (Option Nat) := ws.foldl (fun m w => m.set w.1 (some w.2)) m
theorem applyW_len (ws : List (Nat × Nat)) : ∀ m, (applyW m ws).length = m.length := by
  induction ws with
  | nil => intro m; rfl
  | cons w ws ih => intro m; show (applyW (m.set w.1 (some w.2)) ws).length = _; rw [ih]; simp
theorem applyW_take (m : List (Option Nat)) (ws : List (Nat × Nat)) (k : Nat) (w : Nat × Nat) (h : ws[k]? = some w) : applyW m (ws.take (k + 1)) = (applyW m (ws.take k)).set w.1 (some w.2) := by
  rw [List.take_succ, h]
  simp [applyW]

end Go.Proofs.Ytmfmbadfgnhonaa

