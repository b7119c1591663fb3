/-
  The walk through the journal's code: what its functions do to memory, part RnR4. Nothing is asked.
-/
import Derived.Test.YtmfmbadfgnhonaaRnR3
import Derived.Test.YtmfmbadfgnhonaaRnJ30
set_option linter.all false
namespace Go.Proofs.Ytmfmbadfgnhonaa
open Go Go.Ag
set_option linter.unusedVariables false
set_option maxRecDepth 100000
section
variable {H : Type} {S : MS}
theorem run3 (ds : List (DataW H)) (vs : List Value) (h : RdSAll Try.prog S [3, 3, 3] vs ds) : CallM Try.prog O 3 vs S fun v _ => v = .bool true := by
  obtain ⟨a, b, c, d1, d2, d3, rfl, rfl⟩ := three h
  obtain ⟨⟨cs1, r1, k1⟩, ⟨cs2, r2, k2⟩, ⟨cs3, r3, k3⟩, _⟩ := h
  have hu : ∀ fs, Try.prog.underlying 3 ≠ some (.struct fs) := fun fs e => by rw [under3] at e; cases e
  have e1 := rd_sv (d := d1) k1 hu
  have e2 := rd_sv (d := d1) k2 hu
  have e3 := rd_sv (d := d1) k3 hu
  subst e1 e2 e3
  obtain ⟨n1, e1, _⟩ := rd_int under3 r1
  obtain ⟨n2, e2, _⟩ := rd_int under3 r2
  obtain ⟨n3, e3, _⟩ := rd_int under3 r3
  cases e1; cases e2; cases e3
  exact law3 n1 n2 n3
end
end Go.Proofs.Ytmfmbadfgnhonaa

