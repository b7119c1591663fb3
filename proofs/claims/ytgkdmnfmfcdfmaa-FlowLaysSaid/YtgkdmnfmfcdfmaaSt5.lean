/-
  The walk through the code of blocks and of what is reached, part F5: what its functions do to memory. Nothing is asked.
-/
import Derived.Test.YtgkdmnfmfcdfmaaSt4
set_option linter.all false
namespace Go.Proofs.Ytgkdmnfmfcdfmaa
open Go Go.Ag
set_option linter.unusedVariables false
set_option maxRecDepth 100000

def Old (S S' : MS) : Prop := S.n ≤ S'.n ∧ ∀ y, y < S.n → S'.m y = S.m y
theorem Old.refl (S : MS) : Old S S := ⟨Nat.le_refl _, fun _ _ => rfl⟩
theorem Old.trans {S S' S'' : MS} (h : Old S S') (h' : Old S' S'') : Old S S'' := ⟨Nat.le_trans h.1 h'.1, fun y hy => by rw [h'.2 y (Nat.lt_of_lt_of_le hy h.1), h.2 y hy]⟩
end Go.Proofs.Ytgkdmnfmfcdfmaa

