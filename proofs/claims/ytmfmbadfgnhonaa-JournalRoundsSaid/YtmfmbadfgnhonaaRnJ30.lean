/-
  The walk through the journal's code: what its functions do to memory, part RnJ30. Nothing is asked.
-/
import Derived.Test.YtmfmbadfgnhonaaRnJ29
set_option linter.all false
namespace Go.Proofs.Ytmfmbadfgnhonaa
open Go Go.Ag
set_option linter.unusedVariables false
set_option maxRecDepth 100000

/-! ### how arguments read -/
theorem under3 : Try.prog.underlying 3 = some (.int .i64) := by kernel_rfl
section
variable {H : Type} {S : MS}
theorem rd_int {t : TypeId} {k : IntKind} (hu : Try.prog.underlying t = some (.int k)) {cs : List Value} {d : DataW H} (h : RdS Try.prog S t cs d) : ∃ n, cs = [.int k n] ∧ (Lit.int k n).wf = true := by
  cases h with
  | int hu' hw => rw [hu] at hu'; cases hu'; exact ⟨_, rfl, hw⟩
  | bool hu' => rw [hu] at hu'; cases hu'
  | string hu' _ => rw [hu] at hu'; cases hu'
  | sliceNil hu' => rw [hu] at hu'; cases hu'
  | sliceZ hu' => rw [hu] at hu'; cases hu'
  | slice vs hu' => rw [hu] at hu'; cases hu'
  | struct hu' => rw [hu] at hu'; cases hu'
theorem rd_sv {t : TypeId} {cs : List Value} {d : DataW H} {v : Value} (h : (∃ fs, Try.prog.underlying t = some (.struct fs)) ∧ v = .agg cs.toArray ∨ (∀ fs, Try.prog.underlying t ≠ some (.struct fs)) ∧ cs = [v]) (hu : ∀ fs, Try.prog.underlying t ≠ some (.struct fs)) : cs = [v] := by
  rcases h with ⟨⟨fs, hf⟩, _⟩ | ⟨_, h⟩
  · exact absurd hf (hu fs)
  · exact h
theorem three {P : Program} {t1 t2 t3 : TypeId} {vs : List Value} {ds : List (DataW H)} (h : RdSAll P S [t1, t2, t3] vs ds) : ∃ a b c d1 d2 d3, vs = [a, b, c] ∧ ds = [d1, d2, d3] := by
  rcases vs with _ | ⟨a, _ | ⟨b, _ | ⟨c, _ | ⟨e, vs⟩⟩⟩⟩ <;> rcases ds with _ | ⟨d1, _ | ⟨d2, _ | ⟨d3, _ | ⟨d4, ds⟩⟩⟩⟩ <;> first | exact h.elim | exact h.2.elim | exact h.2.2.elim | exact h.2.2.2.elim | exact ⟨_, _, _, _, _, _, rfl, rfl⟩
end
end Go.Proofs.Ytmfmbadfgnhonaa

