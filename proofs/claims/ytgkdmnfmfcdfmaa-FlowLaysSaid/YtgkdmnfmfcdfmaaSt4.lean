/-
  The walk through the code of blocks and of what is reached, part F4: what its functions do to memory. Nothing is asked.
-/
import Derived.Test.YtgkdmnfmfcdfmaaSt3
set_option linter.all false
namespace Go.Proofs.Ytgkdmnfmfcdfmaa
open Go Go.Ag
set_option linter.unusedVariables false
set_option maxRecDepth 100000

theorem callM_wf_post {f : FuncId} {args : List Value} {S : MS} {Q : Value → MS → Prop} (h : CallM Try.prog O f args S fun v S' => S'.WF → Q v S') : CallM Try.prog O f args S Q := fun A hA => by
  obtain ⟨v, A', S', h1, h2, h3⟩ := h A hA
  exact ⟨v, A', S', h1, h2, h3 h2.wf⟩
theorem partS_two (a b : Value) : partS (some 2) [a, b] 0 = some (.agg #[a, b]) := rfl

theorem last_of {α : Type} {w : List α} (h : w ≠ []) : ∃ w' x, w = w' ++ [x] := ⟨w.dropLast, w.getLast h, (List.dropLast_concat_getLast h).symm⟩

end Go.Proofs.Ytgkdmnfmfcdfmaa

