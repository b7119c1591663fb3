/-
  The walk through the journal's code: what its functions do to memory, part RnR1. Nothing is asked.
-/
import Derived.Test.YtmfmbadfgnhonaaRnJ29
import Derived.Test.YtmfmbadfgnhonaaRnV
set_option linter.all false
namespace Go.Proofs.Ytmfmbadfgnhonaa
open Go Go.Ag
set_option linter.unusedVariables false
set_option maxRecDepth 100000

theorem g3 {S : MS} {T : FT} {n sz rounds : Int} (t0 : T.get 0 = .int .i64 n) (t1 : T.get 1 = .int .i64 sz) (t2 : T.get 2 = .int .i64 rounds) {Q : FT → MS → Prop} (bad : ¬ (¬ (n < 64) ∧ ¬ (n > 120) ∧ ¬ (sz < 20) ∧ ¬ (sz > 400) ∧ ¬ (rounds < 1) ∧ ¬ (rounds > 5)) → ∀ T', T'.get 36 = .bool true → Q T' S) (good : ¬ (n < 64) ∧ ¬ (n > 120) ∧ ¬ (sz < 20) ∧ ¬ (sz > 400) ∧ ¬ (rounds < 1) ∧ ¬ (rounds > 5) → ∀ T', T'.get 0 = T.get 0 → T'.get 1 = T.get 1 → T'.get 2 = T.get 2 → T'.get 36 = .bool false → Q T' S) : mOps Try.prog O 116 (ro 3 3).toList (ro 3 3).toList [] T S Q := by
  rw [reg3_3, t0, t1, t2]
  by_cases h1 : n < 64
  · have e1 : decide (n < 64) = true := decide_eq_true h1
    refine ⟨.bool true, (abin_lss _ _ _ _ _ _ _).trans (by rw [e1]), true, rfl, fun _ => ⟨.bool true, rfl, true, rfl, fun _ => ⟨.bool true, rfl, true, rfl, fun _ => ⟨.bool true, rfl, true, rfl, fun _ => ⟨.bool true, rfl, true, rfl, fun _ => ⟨.bool true, rfl, bad (fun hx => ?_) _ ?_⟩, tf⟩, tf⟩, tf⟩, tf⟩, tf⟩
    · exact absurd h1 hx.1
    · simp [FT.get_set]
  have e1 : decide (n < 64) = false := decide_eq_false h1
  by_cases h2 : n > 120
  · have e2 : decide (n > 120) = true := decide_eq_true h2
    refine ⟨.bool false, (abin_lss _ _ _ _ _ _ _).trans (by rw [e1]), false, rfl, ff, fun _ => ⟨.bool true, (abin_gtr _ _ _ _ _ _ _).trans (by rw [e2]), .bool true, rfl, true, rfl, fun _ => ⟨.bool true, rfl, true, rfl, fun _ => ⟨.bool true, rfl, true, rfl, fun _ => ⟨.bool true, rfl, true, rfl, fun _ => ⟨.bool true, rfl, bad (fun hx => ?_) _ ?_⟩, tf⟩, tf⟩, tf⟩, tf⟩⟩
    · exact absurd h2 hx.2.1
    · simp [FT.get_set]
  have e2 : decide (n > 120) = false := decide_eq_false h2
  by_cases h3 : sz < 20
  · have e3 : decide (sz < 20) = true := decide_eq_true h3
    refine ⟨.bool false, (abin_lss _ _ _ _ _ _ _).trans (by rw [e1]), false, rfl, ff, fun _ => ⟨.bool false, (abin_gtr _ _ _ _ _ _ _).trans (by rw [e2]), .bool false, rfl, false, rfl, ff, fun _ => ⟨.bool true, (abin_lss _ _ _ _ _ _ _).trans (by rw [e3]), .bool true, rfl, true, rfl, fun _ => ⟨.bool true, rfl, true, rfl, fun _ => ⟨.bool true, rfl, true, rfl, fun _ => ⟨.bool true, rfl, bad (fun hx => ?_) _ ?_⟩, tf⟩, tf⟩, tf⟩⟩⟩
    · exact absurd h3 hx.2.2.1
    · simp [FT.get_set]
  have e3 : decide (sz < 20) = false := decide_eq_false h3
  by_cases h4 : sz > 400
  · have e4 : decide (sz > 400) = true := decide_eq_true h4
    refine ⟨.bool false, (abin_lss _ _ _ _ _ _ _).trans (by rw [e1]), false, rfl, ff, fun _ => ⟨.bool false, (abin_gtr _ _ _ _ _ _ _).trans (by rw [e2]), .bool false, rfl, false, rfl, ff, fun _ => ⟨.bool false, (abin_lss _ _ _ _ _ _ _).trans (by rw [e3]), .bool false, rfl, false, rfl, ff, fun _ => ⟨.bool true, (abin_gtr _ _ _ _ _ _ _).trans (by rw [e4]), .bool true, rfl, true, rfl, fun _ => ⟨.bool true, rfl, true, rfl, fun _ => ⟨.bool true, rfl, bad (fun hx => ?_) _ ?_⟩, tf⟩, tf⟩⟩⟩⟩
    · exact absurd h4 hx.2.2.2.1
    · simp [FT.get_set]
  have e4 : decide (sz > 400) = false := decide_eq_false h4
  by_cases h5 : rounds < 1
  · have e5 : decide (rounds < 1) = true := decide_eq_true h5
    refine ⟨.bool false, (abin_lss _ _ _ _ _ _ _).trans (by rw [e1]), false, rfl, ff, fun _ => ⟨.bool false, (abin_gtr _ _ _ _ _ _ _).trans (by rw [e2]), .bool false, rfl, false, rfl, ff, fun _ => ⟨.bool false, (abin_lss _ _ _ _ _ _ _).trans (by rw [e3]), .bool false, rfl, false, rfl, ff, fun _ => ⟨.bool false, (abin_gtr _ _ _ _ _ _ _).trans (by rw [e4]), .bool false, rfl, false, rfl, ff, fun _ => ⟨.bool true, (abin_lss _ _ _ _ _ _ _).trans (by rw [e5]), .bool true, rfl, true, rfl, fun _ => ⟨.bool true, rfl, bad (fun hx => ?_) _ ?_⟩, tf⟩⟩⟩⟩⟩
    · exact absurd h5 hx.2.2.2.2.1
    · simp [FT.get_set]
  have e5 : decide (rounds < 1) = false := decide_eq_false h5
  by_cases h6 : rounds > 5
  · have e6 : decide (rounds > 5) = true := decide_eq_true h6
    refine ⟨.bool false, (abin_lss _ _ _ _ _ _ _).trans (by rw [e1]), false, rfl, ff, fun _ => ⟨.bool false, (abin_gtr _ _ _ _ _ _ _).trans (by rw [e2]), .bool false, rfl, false, rfl, ff, fun _ => ⟨.bool false, (abin_lss _ _ _ _ _ _ _).trans (by rw [e3]), .bool false, rfl, false, rfl, ff, fun _ => ⟨.bool false, (abin_gtr _ _ _ _ _ _ _).trans (by rw [e4]), .bool false, rfl, false, rfl, ff, fun _ => ⟨.bool false, (abin_lss _ _ _ _ _ _ _).trans (by rw [e5]), .bool false, rfl, false, rfl, ff, fun _ => ⟨.bool true, (abin_gtr _ _ _ _ _ _ _).trans (by rw [e6]), .bool true, rfl, bad (fun hx => ?_) _ ?_⟩⟩⟩⟩⟩⟩
    · exact absurd h6 hx.2.2.2.2.2
    · simp [FT.get_set]
  have e6 : decide (rounds > 5) = false := decide_eq_false h6
  refine ⟨.bool false, (abin_lss _ _ _ _ _ _ _).trans (by rw [e1]), false, rfl, ff, fun _ => ⟨.bool false, (abin_gtr _ _ _ _ _ _ _).trans (by rw [e2]), .bool false, rfl, false, rfl, ff, fun _ => ⟨.bool false, (abin_lss _ _ _ _ _ _ _).trans (by rw [e3]), .bool false, rfl, false, rfl, ff, fun _ => ⟨.bool false, (abin_gtr _ _ _ _ _ _ _).trans (by rw [e4]), .bool false, rfl, false, rfl, ff, fun _ => ⟨.bool false, (abin_lss _ _ _ _ _ _ _).trans (by rw [e5]), .bool false, rfl, false, rfl, ff, fun _ => ⟨.bool false, (abin_gtr _ _ _ _ _ _ _).trans (by rw [e6]), .bool false, rfl, good ⟨h1, h2, h3, h4, h5, h6⟩ _ ?_ ?_ ?_ ?_⟩⟩⟩⟩⟩⟩
  · simp [FT.get_set, t0, t1, t2]
  · simp [FT.get_set, t0, t1, t2]
  · simp [FT.get_set, t0, t1, t2]
  · simp [FT.get_set]

theorem known3 {S : MS} {Q : Value → MS → Prop} (hq : Q (.bool true) S) : CallM Try.prog O 7 [] S Q := callM_known (by unfold O; rw [if_pos ⟨rfl, rfl⟩]) hq
end Go.Proofs.Ytmfmbadfgnhonaa

