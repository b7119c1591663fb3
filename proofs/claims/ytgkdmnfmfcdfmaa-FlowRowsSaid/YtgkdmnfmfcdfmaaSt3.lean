/-
  The walk through the code of blocks and of what is reached, part F3: what its functions do to memory. Nothing is asked.
-/
import Derived.Test.YtgkdmnfmfcdfmaaSt2
set_option linter.all false
namespace Go.Proofs.Ytgkdmnfmfcdfmaa
open Go Go.Ag
set_option linter.unusedVariables false

/-- what may come from the first one on -/
inductive Reach (os : List Op5) : Nat → Prop
  | zero : Reach os 0
  | step {i : Nat} {o : Op5} {j : Int} : Reach os i → os[i]? = some o → j ∈ succ os.length o i → Reach os j.toNat
def Good (os : List Op5) : Prop := ∀ (i : Nat) o, os[i]? = some o → (o.c = 38 ∨ o.c = 39) → 0 ≤ o.k ∧ o.k < os.length
theorem Good.succ {os : List Op5} (h : Good os) {i : Nat} {o : Op5} (ho : os[i]? = some o) {j : Int} (hj : j ∈ succ os.length o i) : 0 ≤ j ∧ j < os.length := by
  unfold Ytgkdmnfmfcdfmaa.succ at hj
  rcases List.mem_append.1 hj with hj | hj
  · unfold goes at hj
    split at hj
    · rename_i hc; simp at hj; subst hj; exact h i o ho hc
    · cases hj
  · unfold more at hj
    split at hj
    · rename_i hc; simp at hj; subst hj; omega
    · cases hj
theorem succ_len (n : Nat) (o : Op5) (i : Nat) : (succ n o i).length ≤ 2 := by
  unfold succ goes more
  rw [List.length_append]
  split <;> split <;> simp

def un : List Bool → Nat
  | [] => 0
  | b :: l => (if b then 0 else 1) + un l
theorem un_set : ∀ (ms : List Bool) (i : Nat), ms[i]? = some false → un (ms.set i true) + 1 = un ms := by
  intro ms
  induction ms with
  | nil => intro i h; cases h
  | cons b ms ih =>
    intro i h
    cases i with
    | zero => simp at h; subst h; simp [un]; omega
    | succ i =>
      have := ih i (by simpa using h)
      simp only [List.set_cons_succ, un]; omega
theorem un_false (n : Nat) : un (List.replicate n false) = n := by
  induction n with
  | zero => rfl
  | succ n ih => simp [List.replicate_succ, un, ih]; omega

structure Vis (os : List Op5) (ms : List Bool) (w : List Int) : Prop where
  len : ms.length = os.length
  wait : ∀ x ∈ w, 0 ≤ x ∧ x < os.length ∧ Reach os x.toNat
  sound : ∀ i : Nat, ms[i]? = some true → Reach os i
  closed : ∀ (i : Nat) o, ms[i]? = some true → os[i]? = some o → ∀ j ∈ succ os.length o i, ms[j.toNat]? = some true ∨ j ∈ w
  zero : ms[0]? = some true ∨ (0 : Int) ∈ w

theorem Vis.start {os : List Op5} (h : os.length ≠ 0) : Vis os (List.replicate os.length false) [0] := by
  have no : ∀ i : Nat, ¬ (List.replicate os.length false)[i]? = some true := by
    intro i h
    rw [List.getElem?_replicate] at h
    split at h <;> cases h
  exact ⟨by simp, fun x hx => by simp at hx; subst hx; exact ⟨by omega, by omega, .zero⟩, fun i hi => absurd hi (no i), fun i o hi => absurd hi (no i), .inr (by simp)⟩

theorem Vis.skip {os : List Op5} {ms : List Bool} {w w' : List Int} {x : Int} (h : Vis os ms w) (hm : ms[x.toNat]? = some true) (h1 : ∀ y ∈ w, y = x ∨ y ∈ w') (h2 : ∀ y ∈ w', y ∈ w) : Vis os ms w' := by
  refine ⟨h.len, fun y hy => h.wait y (h2 y hy), h.sound, fun i o hi ho j hj => ?_, ?_⟩
  · rcases h.closed i o hi ho j hj with h3 | h3
    · exact .inl h3
    · rcases h1 j h3 with rfl | h4
      · exact .inl hm
      · exact .inr h4
  · rcases h.zero with h3 | h3
    · exact .inl h3
    · rcases h1 0 h3 with h4 | h4
      · rw [← h4] at hm; exact .inl hm
      · exact .inr h4

theorem Vis.mark {os : List Op5} {ms : List Bool} {w w' : List Int} {x : Int} {o : Op5} (h : Vis os ms w) (hg : Good os) (hx : x ∈ w) (ho : os[x.toNat]? = some o) (h1 : ∀ y ∈ w, y = x ∨ y ∈ w') (h2 : ∀ y ∈ w', y ∈ w ∨ y ∈ succ os.length o x.toNat) (h3 : ∀ j ∈ succ os.length o x.toNat, j ∈ w') : Vis os (ms.set x.toNat true) w' := by
  obtain ⟨x0, x1, x2⟩ := h.wait x hx
  have hxl : x.toNat < ms.length := by rw [h.len]; omega
  have self : (ms.set x.toNat true)[x.toNat]? = some true := by rw [List.getElem?_set, if_pos rfl, if_pos hxl]
  have more : ∀ i : Nat, ms[i]? = some true → (ms.set x.toNat true)[i]? = some true := by
    intro i hi
    rw [List.getElem?_set]
    split
    · rename_i e; first | rw [if_pos (by omega)] | rfl | simp [hxl]
    · exact hi
  have less : ∀ i : Nat, (ms.set x.toNat true)[i]? = some true → i = x.toNat ∨ ms[i]? = some true := by
    intro i hi
    rw [List.getElem?_set] at hi
    split at hi
    · rename_i e; exact .inl e.symm
    · exact .inr hi
  refine ⟨by simp [h.len], fun y hy => ?_, fun i hi => ?_, fun i o' hi ho' j hj => ?_, ?_⟩
  · rcases h2 y hy with h4 | h4
    · exact h.wait y h4
    · obtain ⟨g1, g2⟩ := hg.succ ho h4
      exact ⟨g1, g2, .step x2 ho h4⟩
  · rcases less i hi with rfl | h4
    · exact x2
    · exact h.sound i h4
  · rcases less i hi with rfl | h4
    · rw [ho] at ho'; cases ho'
      exact .inr (h3 j hj)
    · rcases h.closed i o' h4 ho' j hj with h5 | h5
      · exact .inl (more _ h5)
      · rcases h1 j h5 with rfl | h6
        · exact .inl self
        · exact .inr h6
  · rcases h.zero with h4 | h4
    · exact .inl (more 0 h4)
    · rcases h1 0 h4 with h5 | h5
      · have e : x.toNat = 0 := by rw [← h5]; rfl
        rw [e] at self ⊢; exact .inl self
      · exact .inr h5

theorem Vis.done {os : List Op5} {ms : List Bool} (h : Vis os ms []) (hg : Good os) {i : Nat} (hr : Reach os i) : ms[i]? = some true := by
  induction hr with
  | zero => rcases h.zero with h1 | h1
            · exact h1
            · cases h1
  | step hr ho hj ih =>
    rcases h.closed _ _ ih ho _ hj with h1 | h1
    · exact h1
    · cases h1
/-- both mark the same -/
theorem Vis.same {os : List Op5} {ms ms' : List Bool} (h : Vis os ms []) (h' : Vis os ms' []) (hg : Good os) : ms = ms' := by
  refine List.ext_getElem? fun i => ?_
  by_cases hr : Reach os i
  · rw [h.done hg hr, h'.done hg hr]
  · by_cases hi : i < os.length
    · have a : ms[i]? ≠ some true := fun e => hr (h.sound i e)
      have b : ms'[i]? ≠ some true := fun e => hr (h'.sound i e)
      cases h1 : ms[i]? with
      | none => rw [List.getElem?_eq_none_iff, h.len] at h1; omega
      | some x =>
        cases h2 : ms'[i]? with
        | none => rw [List.getElem?_eq_none_iff, h'.len] at h2; omega
        | some y => cases x <;> cases y <;> first | rfl | exact absurd h1 a | exact absurd h2 b
    · rw [List.getElem?_eq_none (by rw [h.len]; omega), List.getElem?_eq_none (by rw [h'.len]; omega)]
end Go.Proofs.Ytgkdmnfmfcdfmaa

