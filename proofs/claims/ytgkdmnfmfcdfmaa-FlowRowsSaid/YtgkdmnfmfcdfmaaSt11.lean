/-
  The walk through the code of blocks and of what is reached, part F11: what its functions do to memory. Nothing is asked.
-/
import Derived.Test.YtgkdmnfmfcdfmaaSt10
set_option linter.all false
namespace Go.Proofs.Ytgkdmnfmfcdfmaa
open Go Go.Ag
set_option linter.unusedVariables false
set_option maxRecDepth 100000

theorem under3 : Try.prog.underlying 3 = some (.int .i64) := by kernel_rfl
section
variable {H : Type} {S : MS}
theorem rd_int {t : TypeId} {k : IntKind} (hu : Try.prog.underlying t = some (.int k)) {cs : List Value} {d : DataW H} (h : RdS Try.prog S t cs d) : ∃ n, cs = [.int k n] := by
  cases h with
  | int hu' hw => rw [hu] at hu'; cases hu'; exact ⟨_, rfl⟩
  | bool hu' => rw [hu] at hu'; cases hu'
  | string hu' _ => rw [hu] at hu'; cases hu'
  | sliceNil hu' => rw [hu] at hu'; cases hu'
  | sliceZ hu' => rw [hu] at hu'; cases hu'
  | slice vs hu' => rw [hu] at hu'; cases hu'
  | struct hu' => rw [hu] at hu'; cases hu'

end
end Go.Proofs.Ytgkdmnfmfcdfmaa

