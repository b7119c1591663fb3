/-
  The walk through the journal's code: what its functions do to memory, part FmA4. Nothing is asked.
-/
import Derived.Test.YtmfmbadfgnhonaaFmA3
set_option linter.all false
namespace Go.Proofs.Ytmfmbadfgnhonaa
open Go Go.Ag
set_option linter.unusedVariables false
set_option maxRecDepth 100000
section
variable {H : Type} {S : MS}
theorem four {P : Program} {t1 t2 t3 t4 : TypeId} {vs : List Value} {ds : List (DataW H)} (h : RdSAll P S [t1, t2, t3, t4] vs ds) : ∃ a b c e d1 d2 d3 d4, vs = [a, b, c, e] ∧ ds = [d1, d2, d3, d4] := by
  rcases vs with _ | ⟨a, _ | ⟨b, _ | ⟨c, _ | ⟨e, _ | ⟨g, vs⟩⟩⟩⟩⟩ <;> rcases ds with _ | ⟨d1, _ | ⟨d2, _ | ⟨d3, _ | ⟨d4, _ | ⟨d5, ds⟩⟩⟩⟩⟩ <;> first | exact h.elim | exact h.2.elim | exact h.2.2.elim | exact h.2.2.2.elim | exact h.2.2.2.2.elim | exact ⟨_, _, _, _, _, _, _, _, rfl, rfl⟩
theorem run5 (ds : List (DataW H)) (vs : List Value) (h : RdSAll Try.prog S [3, 3, 32, 32] vs ds) : CallM Try.prog O 5 vs S fun v _ => v = .bool true := by
  obtain ⟨a, b, c, e, d1, d2, d3, d4, rfl, rfl⟩ := four h
  obtain ⟨⟨cs1, r1, k1⟩, ⟨cs2, r2, k2⟩, ⟨cs3, r3, k3⟩, ⟨cs4, r4, k4⟩, _⟩ := h
  have hu : ∀ fs, Try.prog.underlying 3 ≠ some (.struct fs) := fun fs e => by rw [under3] at e; cases e
  have hu2 : ∀ fs, Try.prog.underlying 32 ≠ some (.struct fs) := fun fs e => by rw [under32] at e; cases e
  have e1 := rd_sv (d := d1) k1 hu
  have e2 := rd_sv (d := d1) k2 hu
  have e3 := rd_sv (d := d1) k3 hu2
  have e4 := rd_sv (d := d1) k4 hu2
  subst e1 e2 e3 e4
  obtain ⟨n1, e1, _⟩ := rd_int under3 r1
  obtain ⟨n2, e2, _⟩ := rd_int under3 r2
  obtain ⟨v3, b3, e3, h3, _⟩ := rd_bytes r3
  obtain ⟨v4, b4, e4, h4, _⟩ := rd_bytes r4
  cases e1; cases e2; cases e3; cases e4
  exact law5 n1 n2 h3 h4
end
end Go.Proofs.Ytmfmbadfgnhonaa

