/-
  The walk through the code of blocks and of what is reached, part G3: what its functions do to memory. Nothing is asked.
-/
import Derived.Test.YtgkdmnfmfcdfmaaSt11
set_option linter.all false
namespace Go.Proofs.Ytgkdmnfmfcdfmaa
open Go Go.Ag
set_option linter.unusedVariables false

/-- what may come from the first one on, by any row of successors -/
inductive ReachG (nx : Nat → List Int) : Nat → Prop
  | zero : ReachG nx 0
  | step {i : Nat} {j : Int} : ReachG nx i → j ∈ nx i → ReachG nx j.toNat
def GoodG (n : Nat) (nx : Nat → List Int) : Prop := ∀ (i : Nat), i < n → ∀ j ∈ nx i, 0 ≤ j ∧ j < n

structure VisG (n : Nat) (nx : Nat → List Int) (ms : List Bool) (w : List Int) : Prop where
  len : ms.length = n
  wait : ∀ x ∈ w, 0 ≤ x ∧ x < n ∧ ReachG nx x.toNat
  sound : ∀ i : Nat, ms[i]? = some true → ReachG nx i
  closed : ∀ (i : Nat), ms[i]? = some true → ∀ j ∈ nx i, ms[j.toNat]? = some true ∨ j ∈ w
  zero : ms[0]? = some true ∨ (0 : Int) ∈ w

theorem VisG.start {n : Nat} {nx : Nat → List Int} (h : n ≠ 0) : VisG n nx (List.replicate n false) [0] := by
  have no : ∀ i : Nat, ¬ (List.replicate n false)[i]? = some true := by
    intro i h
    rw [List.getElem?_replicate] at h
    split at h <;> cases h
  exact ⟨by simp, fun x hx => by simp at hx; subst hx; exact ⟨by omega, by omega, .zero⟩, fun i hi => absurd hi (no i), fun i hi => absurd hi (no i), .inr (by simp)⟩

theorem VisG.skip {n : Nat} {nx : Nat → List Int} {ms : List Bool} {w w' : List Int} {x : Int} (h : VisG n nx ms w) (hm : ms[x.toNat]? = some true) (h1 : ∀ y ∈ w, y = x ∨ y ∈ w') (h2 : ∀ y ∈ w', y ∈ w) : VisG n nx ms w' := by
  refine ⟨h.len, fun y hy => h.wait y (h2 y hy), h.sound, fun i hi j hj => ?_, ?_⟩
  · rcases h.closed i hi j hj with h3 | h3
    · exact .inl h3
    · rcases h1 j h3 with rfl | h4
      · exact .inl hm
      · exact .inr h4
  · rcases h.zero with h3 | h3
    · exact .inl h3
    · rcases h1 0 h3 with h4 | h4
      · rw [← h4] at hm; exact .inl hm
      · exact .inr h4

theorem VisG.mark {n : Nat} {nx : Nat → List Int} {ms : List Bool} {w w' : List Int} {x : Int} (h : VisG n nx ms w) (hg : GoodG n nx) (hx : x ∈ w) (h1 : ∀ y ∈ w, y = x ∨ y ∈ w') (h2 : ∀ y ∈ w', y ∈ w ∨ y ∈ nx x.toNat) (h3 : ∀ j ∈ nx x.toNat, j ∈ w') : VisG n nx (ms.set x.toNat true) w' := by
  obtain ⟨x0, x1, x2⟩ := h.wait x hx
  have hxl : x.toNat < ms.length := by rw [h.len]; omega
  have self : (ms.set x.toNat true)[x.toNat]? = some true := by rw [List.getElem?_set, if_pos rfl, if_pos hxl]
  have more : ∀ i : Nat, ms[i]? = some true → (ms.set x.toNat true)[i]? = some true := by
    intro i hi
    rw [List.getElem?_set]
    split
    · rename_i e; first | rw [if_pos (by omega)] | rfl | simp [hxl]
    · exact hi
  have less : ∀ i : Nat, (ms.set x.toNat true)[i]? = some true → i = x.toNat ∨ ms[i]? = some true := by
    intro i hi
    rw [List.getElem?_set] at hi
    split at hi
    · rename_i e; exact .inl e.symm
    · exact .inr hi
  refine ⟨by simp [h.len], fun y hy => ?_, fun i hi => ?_, fun i hi j hj => ?_, ?_⟩
  · rcases h2 y hy with h4 | h4
    · exact h.wait y h4
    · obtain ⟨g1, g2⟩ := hg _ (by omega) _ h4
      exact ⟨g1, g2, .step x2 h4⟩
  · rcases less i hi with rfl | h4
    · exact x2
    · exact h.sound i h4
  · rcases less i hi with rfl | h4
    · exact .inr (h3 j hj)
    · rcases h.closed i h4 j hj with h5 | h5
      · exact .inl (more _ h5)
      · rcases h1 j h5 with rfl | h6
        · exact .inl self
        · exact .inr h6
  · rcases h.zero with h4 | h4
    · exact .inl (more 0 h4)
    · rcases h1 0 h4 with h5 | h5
      · have e : x.toNat = 0 := by rw [← h5]; rfl
        rw [e] at self ⊢; exact .inl self
      · exact .inr h5

theorem VisG.done {n : Nat} {nx : Nat → List Int} {ms : List Bool} (h : VisG n nx ms []) (hg : GoodG n nx) {i : Nat} (hr : ReachG nx i) : ms[i]? = some true := by
  induction hr with
  | zero => rcases h.zero with h1 | h1
            · exact h1
            · cases h1
  | step hr hj ih =>
    rcases h.closed _ ih _ hj with h1 | h1
    · exact h1
    · cases h1
/-- both mark the same -/
theorem VisG.same {n : Nat} {nx : Nat → List Int} {ms ms' : List Bool} (h : VisG n nx ms []) (h' : VisG n nx ms' []) (hg : GoodG n nx) : ms = ms' := by
  refine List.ext_getElem? fun i => ?_
  by_cases hr : ReachG nx i
  · rw [h.done hg hr, h'.done hg hr]
  · by_cases hi : i < n
    · have a : ms[i]? ≠ some true := fun e => hr (h.sound i e)
      have b : ms'[i]? ≠ some true := fun e => hr (h'.sound i e)
      cases h1 : ms[i]? with
      | none => rw [List.getElem?_eq_none_iff, h.len] at h1; omega
      | some x =>
        cases h2 : ms'[i]? with
        | none => rw [List.getElem?_eq_none_iff, h'.len] at h2; omega
        | some y => cases x <;> cases y <;> first | rfl | exact absurd h1 a | exact absurd h2 b
    · rw [List.getElem?_eq_none (by rw [h.len]; omega), List.getElem?_eq_none (by rw [h'.len]; omega)]
end Go.Proofs.Ytgkdmnfmfcdfmaa

