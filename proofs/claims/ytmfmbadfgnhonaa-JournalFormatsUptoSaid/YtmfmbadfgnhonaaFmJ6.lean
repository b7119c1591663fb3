/-
  The walk through the journal's code: what its functions do to memory, part FmJ6. Nothing is asked.
-/
import Derived.Test.YtmfmbadfgnhonaaFmJ5
set_option linter.all false
namespace Go.Proofs.Ytmfmbadfgnhonaa
open Go Go.Ag
set_option linter.unusedVariables false
set_option maxRecDepth 100000

/-- what a disk's blocks have in them -/
def Holds (S : MS) (D : DK) (c : Nat → List UInt8) : Prop := ∀ i, i < D.made.length → (c i).length = 256 ∧ ∃ o, D.now[i]? = some o ∧ Cont S o (bL (c i))
theorem Holds.old {S S' : MS} {D : DK} {c : Nat → List UInt8} (h : Holds S D c) (wf : S.WF) (f : Old S S') : Holds S' D c := fun i hi => by
  obtain ⟨h1, o, h2, h3⟩ := h i hi
  refine ⟨h1, o, h2, h3.keep fun a ha => ?_⟩
  subst ha
  exact f.2 a (wf _ _ h3.2.2)

theorem readP {S : MS} {d : Nat} {D : DK} {c : Nat → List UInt8} (h : IsD S d D) (hc : Holds S D c) {i : Nat} (hi : i < D.made.length) {Q : Value → MS → Prop}
    (q1 : D.cut = true → Q (.tuple #[.slice none 0 0, .int .i64 12]) S)
    (q2 : D.cut = false → Q (.tuple #[.slice (some ⟨S.n, 0, none⟩) 256 256, .int .i64 0]) (S.fresh (bL (c i)) 1)) :
    CallM Try.prog O 35 [.pointer (some ⟨d, 0, none⟩), .int .i64 i] S Q := by
  obtain ⟨h1, o, h2, h3⟩ := hc i hi
  refine readD h (i : Int) (c := bL (c i)) (fun o' _ ho' => ?_) q1 (fun _ hno => absurd ⟨by omega, by omega⟩ hno) (fun hcut _ _ => q2 hcut)
  rw [Int.toNat_natCast, h2] at ho'
  cases ho'; exact h3

end Go.Proofs.Ytmfmbadfgnhonaa

