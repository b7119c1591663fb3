/-
  The walk through the code of blocks and of what is reached, part L13: what its functions do to memory. Nothing is asked.
-/
import Derived.Test.YtgkdmnfmfcdfmaaLa12
set_option linter.all false
namespace Go.Ag
open Go
set_option linter.unusedVariables false
set_option maxRecDepth 100000
section
variable {α : Type} {f : α → List Value} {sz : Nat}

theorem fm_splice (hf : ∀ a, (f a).length = sz) (l junk new : List α) (h : new.length ≤ junk.length) : spliceL ((l ++ junk).flatMap f) (new.flatMap f) (0 + l.length * sz) = ((l ++ new) ++ junk.drop new.length).flatMap f := by
  unfold spliceL
  rw [Nat.zero_add, fm_take hf, fm_len hf, ← Nat.add_mul, fm_drop hf, List.drop_append, List.drop_of_length_le (by omega : l.length ≤ l.length + new.length)]
  simp [List.flatMap_append]

/-- append of elements -/
theorem SlF.app (hfl : ∀ a, (f a).length = sz) (hone : ∀ a, (f a).all oneCell = true) (hsz : 0 < sz) {bytes : Nat} {z : List Value} {S : MS} {B : Nat} {v x : Value} {l new : List α} (h : SlF f sz S B v l) (wf : S.WF) (hBn : B ≤ S.n) (hl : lenOfA x = some new.length) (hf : firstCellsM S sz new.length x = some (new.flatMap f)) (hsm : (2 * (l.length + new.length) + 1000) * bytes ≤ 281474976710656) (hsm2 : l.length + new.length < 2147483648) :
    ∃ v' S', apS false sz bytes z S [v, x] = some (v', S') ∧ SlF f sz S' B v' (l ++ new) ∧ S.n ≤ S'.n ∧ ∀ y, (y < B ∨ ∃ l' e, e ≠ sz ∧ S.m y = some (.cells l' e)) → S'.m y = S.m y := by
  have ne : ∀ y, (y < B ∨ ∃ l' e, e ≠ sz ∧ S.m y = some (.cells l' e)) → y ≠ S.n := fun y hy => by
    rcases hy with hy | ⟨l', e, _, hy⟩
    · omega
    · exact Nat.ne_of_lt (wf _ _ hy)
  have ho : ∀ l : List α, (l.flatMap f).all oneCell = true := by
    intro l
    rw [List.all_eq_true]
    intro v hv
    obtain ⟨a, _, ha⟩ := List.mem_flatMap.1 hv
    exact List.all_eq_true.1 (hone a) v ha
  by_cases h0 : new.length = 0
  · have : new = [] := List.length_eq_zero_iff.1 h0
    subst this
    refine ⟨v, S, ?_, by rw [List.append_nil]; exact h, Nat.le_refl _, fun _ _ => rfl⟩
    unfold apS appendedM
    simp only [Bool.false_eq_true, if_false, hl, Option.bind_some, hf, Option.map_some]
    cases h with
    | non => simp
    | own hb hB hc => simp [hb]
  · have hnl : (new.flatMap f).length = new.length * sz := fm_len hfl new
    cases h with
    | non =>
      refine ⟨_, _, apS_nil hl hf hnl (ho _) h0 (by simpa using hsm) (by simpa using hsm2), ?_, Nat.le_succ _, fun y hy => fresh_old _ _ _ (ne y hy)⟩
      rw [List.nil_append]
      exact .own (junk := []) (by rw [List.append_nil]; exact fresh_at _ _ _) hBn (.inl rfl)
    | own hb hB hc =>
      rename_i b cap junk
      have nb : ∀ y, (y < B ∨ ∃ l' e, e ≠ sz ∧ S.m y = some (.cells l' e)) → y ≠ b := fun y hy e => by
        rcases hy with hy | ⟨l', e', he, hy⟩
        · omega
        · rw [e, hb] at hy; cases hy; exact he rfl
      have hcl : ((l ++ junk).flatMap f).length = (l.length + junk.length) * sz := by rw [fm_len hfl, List.length_append]
      have hl2 : l.length + new.length = (l ++ new).length := by simp
      have inplace : new.length ≤ junk.length → ∃ S', S.write b (0 + l.length * sz) (new.flatMap f) = some S' ∧ SlF f sz S' B (.slice (some ⟨b, 0, none⟩) (l.length + new.length) cap) (l ++ new) ∧ S.n ≤ S'.n ∧ ∀ y, (y < B ∨ ∃ l' e, e ≠ sz ∧ S.m y = some (.cells l' e)) → S'.m y = S.m y := by
        intro hge
        rw [write_of hb (by rw [hcl, hnl, Nat.zero_add, ← Nat.add_mul]; exact Nat.mul_le_mul_right _ (by omega))]
        refine ⟨_, rfl, ?_, Nat.le_refl _, fun y hy => by rw [set_m, if_neg (nb y hy)]⟩
        rw [hl2]
        refine .own (junk := junk.drop new.length) (by rw [set_m, if_pos rfl, fm_splice hfl _ _ _ hge]) hB ?_
        rcases hc with hc | ⟨hc, hc2⟩
        · exact .inl hc
        · refine .inr ⟨hc, ?_⟩
          simp at hc2 ⊢; omega
      have hble : (Nat.ble (0 + (l.length + new.length) * sz) ((l ++ junk).flatMap f).length = true) ↔ new.length ≤ junk.length := by
        rw [Nat.ble_eq, hcl, Nat.zero_add]
        constructor
        · intro h; have := Nat.le_of_mul_le_mul_right h hsz; omega
        · intro h; exact Nat.mul_le_mul_right _ (by omega)
      have e0 : (List.drop 0 ((l ++ junk).flatMap f)).take (l.length * sz) ++ new.flatMap f = ((l ++ new) ++ []).flatMap f := by
        rw [List.drop_zero, fm_take hfl, List.append_nil, List.flatMap_append]
      have hle0 : 0 + l.length * sz ≤ ((l ++ junk).flatMap f).length := by rw [hcl, Nat.zero_add]; exact Nat.mul_le_mul_right _ (by omega)
      unfold apS appendedM
      simp only [Bool.false_eq_true, if_false, hl, Option.bind_some, hf, Option.map_some, hnl, Nat.beq_refl, ho, Bool.and_self, if_true, if_neg h0, hb]
      rcases hc with hc | ⟨hc, hc2⟩
      · subst hc
        rw [if_pos (Nat.beq_refl _)]
        by_cases hge : new.length ≤ junk.length
        · rw [if_pos (hble.2 hge)]
          obtain ⟨S', h1, h2⟩ := inplace hge
          rw [h1]
          exact ⟨_, _, rfl, h2⟩
        · rw [if_neg (fun h => hge (hble.1 h)), if_pos ⟨hsm, hsm2, hle0⟩]
          refine ⟨_, _, rfl, ?_, Nat.le_succ _, fun y hy => ?_⟩
          · rw [e0, hl2]
            exact .own (junk := []) (fresh_at _ _ _) hBn (.inl rfl)
          · have e : (S.del b).n = S.n := rfl
            rw [fresh_old _ _ _ (by rw [e]; exact ne y hy), del_old _ (nb y hy)]
      · rw [if_neg (by rw [Nat.beq_eq]; omega)]
        by_cases hge : l.length + new.length ≤ cap
        · rw [if_pos (by rw [Nat.ble_eq]; omega)]
          obtain ⟨S', h1, h2⟩ := inplace (by rw [List.length_append] at hc2; omega)
          rw [h1]
          exact ⟨_, _, rfl, h2⟩
        · rw [if_neg (by rw [Nat.ble_eq]; omega), if_pos ⟨hsm, hsm2, hle0⟩]
          refine ⟨_, _, rfl, ?_, Nat.le_succ _, fun y hy => fresh_old _ _ _ (ne y hy)⟩
          rw [e0, hl2]
          exact .own (junk := []) (fresh_at _ _ _) hBn (.inl rfl)
end
end Go.Ag

