/-
  The walk through the code of blocks and of what is reached, part L8: what its functions do to memory. Nothing is asked.
-/
import Derived.Test.YtgkdmnfmfcdfmaaLa7
set_option linter.all false
namespace Go.Proofs.Ytgkdmnfmfcdfmaa
open Go Go.Ag
set_option linter.unusedVariables false
set_option maxRecDepth 100000

/-- the queue: k of wk are looked at -/
def nxG (bs : List Blk) (i : Nat) : List Int := match bs[i]? with | some b => nxB b | none => []
theorem nxG_of {bs : List Blk} {i : Nat} {b : Blk} (h : bs[i]? = some b) : nxG bs i = nxB b := by unfold nxG; rw [h]
theorem nxB_len (b : Blk) : (nxB b).length ≤ 2 := by unfold nxB; split <;> (try split) <;> simp
theorem nxG_len (bs : List Blk) (i : Nat) : (nxG bs i).length ≤ 2 := by unfold nxG; split; exact nxB_len _; simp
theorem nxG_good {bs : List Blk} (h : okG bs) : GoodG bs.length (nxG bs) := by
  intro i hi j hj
  obtain ⟨b, hb⟩ : ∃ b, bs[i]? = some b := ⟨_, List.getElem?_eq_getElem hi⟩
  rw [nxG_of hb] at hj
  have hok := (h.2.2 b (List.mem_of_getElem? hb)).2
  unfold nxB at hj
  rcases hok with ⟨he, ht, _⟩ | ⟨he, ht, hl, _⟩ | ⟨he, _⟩
  · simp [he] at hj; subst hj; exact ht
  · simp [he] at hj; rcases hj with rfl | rfl
    · exact ht
    · exact hl
  · simp [he] at hj
end Go.Proofs.Ytgkdmnfmfcdfmaa

