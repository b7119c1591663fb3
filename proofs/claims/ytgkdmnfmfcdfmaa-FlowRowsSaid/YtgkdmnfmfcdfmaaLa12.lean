/-
  The walk through the code of blocks and of what is reached, part L12: what its functions do to memory. Nothing is asked.
-/
import Derived.Test.YtgkdmnfmfcdfmaaLa11
set_option linter.all false
namespace Go.Ag
open Go
set_option linter.unusedVariables false
set_option maxRecDepth 100000
section
variable {α : Type} {f : α → List Value} {sz : Nat}

theorem fm_len (hf : ∀ a, (f a).length = sz) : ∀ l : List α, (l.flatMap f).length = l.length * sz := by
  intro l
  induction l with
  | nil => simp
  | cons a l ih => simp only [List.flatMap_cons, List.length_append, ih, hf, List.length_cons, Nat.add_mul, Nat.one_mul]; omega
theorem fm_drop (hf : ∀ a, (f a).length = sz) : ∀ (l : List α) (k : Nat), (l.flatMap f).drop (k * sz) = (l.drop k).flatMap f := by
  intro l
  induction l with
  | nil => intro k; simp
  | cons a l ih =>
    intro k
    cases k with
    | zero => simp
    | succ k =>
      have e : (k + 1) * sz = (f a).length + k * sz := by rw [hf, Nat.succ_mul]; omega
      rw [List.flatMap_cons, e, ← List.drop_drop, List.drop_left' rfl]
      exact ih k
theorem fm_take (hf : ∀ a, (f a).length = sz) (l m : List α) : ((l ++ m).flatMap f).take (l.length * sz) = l.flatMap f := by
  rw [List.flatMap_append, List.take_left' (fm_len hf l)]

/-- a slice of elements of so many cells, of the code's own, in blocks from B on -/
inductive SlF (f : α → List Value) (sz : Nat) (S : MS) (B : Nat) : Value → List α → Prop
  | non : SlF f sz S B (.slice none 0 0) []
  | own {b cap : Nat} {l junk : List α} (hb : S.m b = some (.cells ((l ++ junk).flatMap f) sz)) (hB : B ≤ b) (hc : cap = unk ∨ (cap < unk ∧ (l ++ junk).length = cap)) : SlF f sz S B (.slice (some ⟨b, 0, none⟩) l.length cap) l

theorem SlF.len {S : MS} {B : Nat} {v : Value} {l : List α} (h : SlF f sz S B v l) : lenOfA v = some l.length := by cases h <;> rfl
theorem SlF.lenSl {S : MS} {B : Nat} {v : Value} {l : List α} (h : SlF f sz S B v l) : Go.Ag.lenSl v = some (.int .i64 l.length) := by cases h <;> rfl
theorem SlF.cells (hfl : ∀ a, (f a).length = sz) {S : MS} {B : Nat} {v : Value} {l : List α} (h : SlF f sz S B v l) : firstCellsM S sz l.length v = some (l.flatMap f) := by
  cases h with
  | non => rfl
  | own hb hB hc =>
    rename_i b cap junk
    by_cases h0 : l.length = 0
    · have : l = [] := List.length_eq_zero_iff.1 h0
      subst this
      unfold firstCellsM; simp
    · rw [first_of (list_of hb) (Nat.le_refl _) h0 (by rw [fm_len hfl, List.length_append, Nat.add_mul]; omega)]
      rw [List.drop_zero, fm_take hfl]
theorem SlF.keep {S S' : MS} {B : Nat} {v : Value} {l : List α} (h : SlF f sz S B v l) (hk : ∀ x k, S.m x = some k → S'.m x = S.m x) : SlF f sz S' B v l := by
  cases h with
  | non => exact .non
  | own hb hB hc => exact .own (by rw [hk _ _ hb]; exact hb) hB hc
end
end Go.Ag

