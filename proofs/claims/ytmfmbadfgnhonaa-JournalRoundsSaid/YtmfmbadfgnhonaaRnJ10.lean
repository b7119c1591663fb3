/-
  The walk through the journal's code: what its functions do to memory, part RnJ10. Nothing is asked.
-/
import Derived.Test.YtmfmbadfgnhonaaRnJ9
set_option linter.all false
namespace Go.Proofs.Ytmfmbadfgnhonaa
open Go Go.Ag
set_option linter.unusedVariables false
set_option maxRecDepth 100000

theorem IsJ.old {S S' : MS} {j d B half end' : Nat} {base tail : List UInt8} {rs : List (List UInt8)} {dead : Bool} (h : IsJ S j d B half end' base rs tail dead) (wf : S.WF) (f : Old S S') : IsJ S' j d B half end' base rs tail dead := by
  obtain ⟨bv, rv, tv, rl, hj, hb, hr, hrs, ht, hav⟩ := h.ex
  exact ⟨bv, rv, tv, rl, by rw [f.2 j (wf _ _ hj)]; exact hj, hb.keep wf f.2, hr.keep fun y k hk => f.2 y (wf y k hk), hrs.keep wf f.2, ht.keep wf f.2, hav⟩
end Go.Proofs.Ytmfmbadfgnhonaa

