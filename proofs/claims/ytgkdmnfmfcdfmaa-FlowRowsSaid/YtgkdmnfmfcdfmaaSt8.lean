/-
  The walk through the code of blocks and of what is reached, part F8: what its functions do to memory. Nothing is asked.
-/
import Derived.Test.YtgkdmnfmfcdfmaaSt7
set_option linter.all false
namespace Go.Proofs.Ytgkdmnfmfcdfmaa
open Go Go.Ag
set_option linter.unusedVariables false
set_option maxRecDepth 100000

def Fr (B : Nat) (S S' : MS) : Prop := S.n ≤ S'.n ∧ ∀ y, (y < B ∨ ∃ l', S.m y = some (.cells l' 0)) → S'.m y = S.m y
theorem Fr.trans {B : Nat} {S S' S'' : MS} (h : Fr B S S') (h' : Fr B S' S'') : Fr B S S'' := ⟨Nat.le_trans h.1 h'.1, fun y hy => by
  have e := h.2 y hy
  rw [h'.2 y (by rw [e]; exact hy), e]⟩
end Go.Proofs.Ytgkdmnfmfcdfmaa

