/-
  The walk through the journal's code: what its functions do to memory, part FmJ12. Nothing is asked.
-/
import Derived.Test.YtmfmbadfgnhonaaFmJ11
set_option linter.all false
namespace Go.Proofs.Ytmfmbadfgnhonaa
open Go Go.Ag
set_option linter.unusedVariables false
set_option maxRecDepth 100000

/-! ### plain facts on records that are laid down -/
theorem laid_head (r rest : List UInt8) : (laid r ++ rest).take 8 = num8 r.length := by
  unfold laid
  rw [List.append_assoc, List.take_left' (num8_len _)]
theorem laid_body (r rest : List UInt8) : ((laid r ++ rest).drop 8).take r.length = r := by
  unfold laid
  rw [List.append_assoc, List.drop_left' (num8_len _), List.take_left' rfl]
theorem laid_rest (r rest : List UInt8) : (laid r ++ rest).drop (8 + r.length) = rest := by
  unfold laid
  rw [List.append_assoc, ← List.drop_drop, List.drop_left' (num8_len _), List.drop_left' rfl]
/-- all that a journal has laid down -/
def allB (base : List UInt8) (rs : List (List UInt8)) : List UInt8 := laid base ++ rs.flatMap laid
theorem flat_laid_len (rs : List (List UInt8)) : (rs.flatMap laid).length = wsum rs := by
  induction rs with
  | nil => rfl
  | cons r rs ih => rw [List.flatMap_cons, List.length_append, ih, laid_len, wsum]
theorem allB_len (base : List UInt8) (rs : List (List UInt8)) : (allB base rs).length = liveN base rs := by
  unfold allB liveN; rw [List.length_append, laid_len, flat_laid_len]
theorem allB_snoc (base : List UInt8) (rs : List (List UInt8)) (r : List UInt8) : allB base (rs ++ [r]) = allB base rs ++ laid r := by
  unfold allB; simp
end Go.Proofs.Ytmfmbadfgnhonaa

