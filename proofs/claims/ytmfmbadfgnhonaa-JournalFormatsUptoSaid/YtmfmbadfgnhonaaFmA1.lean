/-
  The walk through the journal's code: what its functions do to memory, part FmA1. Nothing is asked.
-/
import Derived.Test.YtmfmbadfgnhonaaFmJ31
import Derived.Test.YtmfmbadfgnhonaaFmV
set_option linter.all false
namespace Go.Proofs.Ytmfmbadfgnhonaa
open Go Go.Ag
set_option linter.unusedVariables false
set_option maxRecDepth 100000

theorem g5 {S : MS} {T : FT} {n cut : Int} {v w : Value} {lv lw : Nat} (hlv : lenSl v = some (.int .i64 lv)) (hlw : lenSl w = some (.int .i64 lw)) (t0 : T.get 0 = .int .i64 n) (t1 : T.get 1 = .int .i64 cut) (t2 : T.get 2 = v) (t3 : T.get 3 = w) {Q : FT → MS → Prop} (bad : ¬ (¬ (n < 1) ∧ ¬ (n > 120) ∧ ¬ (cut < 0) ∧ ¬ (cut > 300) ∧ ¬ ((lv : Int) > 500) ∧ ¬ ((lw : Int) > 500)) → ∀ T', T'.get 38 = .bool true → Q T' S) (good : ¬ (n < 1) ∧ ¬ (n > 120) ∧ ¬ (cut < 0) ∧ ¬ (cut > 300) ∧ ¬ ((lv : Int) > 500) ∧ ¬ ((lw : Int) > 500) → ∀ T', T'.get 0 = T.get 0 → T'.get 1 = T.get 1 → T'.get 2 = T.get 2 → T'.get 3 = T.get 3 → T'.get 38 = .bool false → Q T' S) : mOps Try.prog O 135 (ro 5 3).toList (ro 5 3).toList [] T S Q := by
  rw [reg5_3, t0, t1, t2, t3]
  by_cases h1 : n < 1
  · have e1 : decide (n < 1) = true := decide_eq_true h1
    refine ⟨.bool true, (abin_lss _ _ _ _ _ _ _).trans (by rw [e1]), true, rfl, fun _ => ⟨.bool true, rfl, true, rfl, fun _ => ⟨.bool true, rfl, true, rfl, fun _ => ⟨.bool true, rfl, true, rfl, fun _ => ⟨.bool true, rfl, true, rfl, fun _ => ⟨.bool true, rfl, bad (fun hx => ?_) _ ?_⟩, tf⟩, tf⟩, tf⟩, tf⟩, tf⟩
    · exact absurd h1 hx.1
    · simp [FT.get_set]
  have e1 : decide (n < 1) = false := decide_eq_false h1
  by_cases h2 : n > 120
  · have e2 : decide (n > 120) = true := decide_eq_true h2
    refine ⟨.bool false, (abin_lss _ _ _ _ _ _ _).trans (by rw [e1]), false, rfl, ff, fun _ => ⟨.bool true, (abin_gtr _ _ _ _ _ _ _).trans (by rw [e2]), .bool true, rfl, true, rfl, fun _ => ⟨.bool true, rfl, true, rfl, fun _ => ⟨.bool true, rfl, true, rfl, fun _ => ⟨.bool true, rfl, true, rfl, fun _ => ⟨.bool true, rfl, bad (fun hx => ?_) _ ?_⟩, tf⟩, tf⟩, tf⟩, tf⟩⟩
    · exact absurd h2 hx.2.1
    · simp [FT.get_set]
  have e2 : decide (n > 120) = false := decide_eq_false h2
  by_cases h3 : cut < 0
  · have e3 : decide (cut < 0) = true := decide_eq_true h3
    refine ⟨.bool false, (abin_lss _ _ _ _ _ _ _).trans (by rw [e1]), false, rfl, ff, fun _ => ⟨.bool false, (abin_gtr _ _ _ _ _ _ _).trans (by rw [e2]), .bool false, rfl, false, rfl, ff, fun _ => ⟨.bool true, (abin_lss _ _ _ _ _ _ _).trans (by rw [e3]), .bool true, rfl, true, rfl, fun _ => ⟨.bool true, rfl, true, rfl, fun _ => ⟨.bool true, rfl, true, rfl, fun _ => ⟨.bool true, rfl, bad (fun hx => ?_) _ ?_⟩, tf⟩, tf⟩, tf⟩⟩⟩
    · exact absurd h3 hx.2.2.1
    · simp [FT.get_set]
  have e3 : decide (cut < 0) = false := decide_eq_false h3
  by_cases h4 : cut > 300
  · have e4 : decide (cut > 300) = true := decide_eq_true h4
    refine ⟨.bool false, (abin_lss _ _ _ _ _ _ _).trans (by rw [e1]), false, rfl, ff, fun _ => ⟨.bool false, (abin_gtr _ _ _ _ _ _ _).trans (by rw [e2]), .bool false, rfl, false, rfl, ff, fun _ => ⟨.bool false, (abin_lss _ _ _ _ _ _ _).trans (by rw [e3]), .bool false, rfl, false, rfl, ff, fun _ => ⟨.bool true, (abin_gtr _ _ _ _ _ _ _).trans (by rw [e4]), .bool true, rfl, true, rfl, fun _ => ⟨.bool true, rfl, true, rfl, fun _ => ⟨.bool true, rfl, bad (fun hx => ?_) _ ?_⟩, tf⟩, tf⟩⟩⟩⟩
    · exact absurd h4 hx.2.2.2.1
    · simp [FT.get_set]
  have e4 : decide (cut > 300) = false := decide_eq_false h4
  by_cases h5 : (lv : Int) > 500
  · have e5 : decide ((lv : Int) > 500) = true := decide_eq_true h5
    refine ⟨.bool false, (abin_lss _ _ _ _ _ _ _).trans (by rw [e1]), false, rfl, ff, fun _ => ⟨.bool false, (abin_gtr _ _ _ _ _ _ _).trans (by rw [e2]), .bool false, rfl, false, rfl, ff, fun _ => ⟨.bool false, (abin_lss _ _ _ _ _ _ _).trans (by rw [e3]), .bool false, rfl, false, rfl, ff, fun _ => ⟨.bool false, (abin_gtr _ _ _ _ _ _ _).trans (by rw [e4]), .bool false, rfl, false, rfl, ff, fun _ => ⟨_, hlv, .bool true, (abin_gtr _ _ _ _ _ _ _).trans (by rw [e5]), .bool true, rfl, true, rfl, fun _ => ⟨.bool true, rfl, bad (fun hx => ?_) _ ?_⟩, tf⟩⟩⟩⟩⟩
    · exact absurd h5 hx.2.2.2.2.1
    · simp [FT.get_set]
  have e5 : decide ((lv : Int) > 500) = false := decide_eq_false h5
  by_cases h6 : (lw : Int) > 500
  · have e6 : decide ((lw : Int) > 500) = true := decide_eq_true h6
    refine ⟨.bool false, (abin_lss _ _ _ _ _ _ _).trans (by rw [e1]), false, rfl, ff, fun _ => ⟨.bool false, (abin_gtr _ _ _ _ _ _ _).trans (by rw [e2]), .bool false, rfl, false, rfl, ff, fun _ => ⟨.bool false, (abin_lss _ _ _ _ _ _ _).trans (by rw [e3]), .bool false, rfl, false, rfl, ff, fun _ => ⟨.bool false, (abin_gtr _ _ _ _ _ _ _).trans (by rw [e4]), .bool false, rfl, false, rfl, ff, fun _ => ⟨_, hlv, .bool false, (abin_gtr _ _ _ _ _ _ _).trans (by rw [e5]), .bool false, rfl, false, rfl, ff, fun _ => ⟨_, hlw, .bool true, (abin_gtr _ _ _ _ _ _ _).trans (by rw [e6]), .bool true, rfl, bad (fun hx => ?_) _ ?_⟩⟩⟩⟩⟩⟩
    · exact absurd h6 hx.2.2.2.2.2
    · simp [FT.get_set]
  have e6 : decide ((lw : Int) > 500) = false := decide_eq_false h6
  refine ⟨.bool false, (abin_lss _ _ _ _ _ _ _).trans (by rw [e1]), false, rfl, ff, fun _ => ⟨.bool false, (abin_gtr _ _ _ _ _ _ _).trans (by rw [e2]), .bool false, rfl, false, rfl, ff, fun _ => ⟨.bool false, (abin_lss _ _ _ _ _ _ _).trans (by rw [e3]), .bool false, rfl, false, rfl, ff, fun _ => ⟨.bool false, (abin_gtr _ _ _ _ _ _ _).trans (by rw [e4]), .bool false, rfl, false, rfl, ff, fun _ => ⟨_, hlv, .bool false, (abin_gtr _ _ _ _ _ _ _).trans (by rw [e5]), .bool false, rfl, false, rfl, ff, fun _ => ⟨_, hlw, .bool false, (abin_gtr _ _ _ _ _ _ _).trans (by rw [e6]), .bool false, rfl, good ⟨h1, h2, h3, h4, h5, h6⟩ _ ?_ ?_ ?_ ?_ ?_⟩⟩⟩⟩⟩⟩
  · simp [FT.get_set, t0, t1, t2, t3]
  · simp [FT.get_set, t0, t1, t2, t3]
  · simp [FT.get_set, t0, t1, t2, t3]
  · simp [FT.get_set, t0, t1, t2, t3]
  · simp [FT.get_set]

theorem known5 {S : MS} {Q : Value → MS → Prop} (hq : Q (.bool true) S) : CallM Try.prog O 7 [] S Q := callM_known (by unfold O; rw [if_pos ⟨rfl, rfl⟩]) hq
end Go.Proofs.Ytmfmbadfgnhonaa

