/-
  The walk through the journal's code: what its functions do to memory, part MoJ17. Nothing is asked.
-/
import Derived.Test.YtmfmbadfgnhonaaMoJ16
set_option linter.all false
namespace Go.Proofs.Ytmfmbadfgnhonaa
open Go Go.Ag
set_option linter.unusedVariables false
set_option maxRecDepth 100000

/-! ### moments -/
theorem app_moment {n : Nat} {c : Nat → List UInt8} {half : Nat} {base : List UInt8} {rs : List (List UInt8)} (h : Says n c half (liveN base rs) base rs) (hl : Len n c) (hn : 1 ≤ n) (b : List UInt8) {k : Nat} (hk : k < (appW n half base rs b).length) : Says n (appC c ((appW n half base rs b).take k)) half (liveN base rs) base rs := by
  unfold appW at hk ⊢
  rw [List.length_append, piecesN_len] at hk
  simp only [List.length_cons, List.length_nil] at hk
  rw [take_app_le _ _ (by rw [piecesN_len]; omega)]
  exact app_part h hl hn b (by omega)
theorem snap_moment {n : Nat} {c : Nat → List UInt8} {half : Nat} {base : List UInt8} {rs : List (List UInt8)} (h : Says n c half (liveN base rs) base rs) (hl : Len n c) (hn : 1 ≤ n) (b : List UInt8) (hb : (laid b).length ≤ (n - 1) / 2 * 256) {k : Nat} (hk : k < (snapW n (1 - half) b).length) : Says n (appC c ((snapW n (1 - half) b).take k)) half (liveN base rs) base rs := by
  unfold snapW at hk ⊢
  rw [List.length_append, piecesN_len] at hk
  simp only [List.length_cons, List.length_nil] at hk
  rw [take_app_le _ _ (by rw [piecesN_len]; omega)]
  exact snap_part h hl hn b hb (by omega)
/-- At: the disk as it was, and what its blocks have in them -/
theorem atP {S : MS} {d : Nat} {D : DK} {c0 : Nat → List UInt8} {W : List (Nat × List UInt8)} (h : IsD S d D) (hw : HW S D c0 W) {n : Nat} (hn : n ≤ W.length) (hws : D.ws.length < 1000000) (h1 : 1 ≤ D.made.length) {Q : Value → MS → Prop}
    (hq : ∀ c C S', Old S S' → IsD S' c C → Holds S' C (appC c0 (W.take n)) → C.cut = false → C.made.length = D.made.length → Q (.tuple #[.pointer (some ⟨c, 0, none⟩), .int .i64 0]) S') :
    CallM Try.prog O 23 [.pointer (some ⟨d, 0, none⟩), .int .i64 n] S Q := by
  refine callM_wf fun wf => at23 h n (by rw [hw.len]; exact hn) hws (fun w hw' => ?_) h1 fun c a b S' hI _ _ _ hle hf => ?_
  · obtain ⟨k, hk, hk2⟩ := List.getElem_of_mem hw'
    have hx : D.ws[k]? = some w := by rw [List.getElem?_eq_getElem hk, hk2]
    obtain ⟨x, hx2⟩ : ∃ x, W[k]? = some x := ⟨_, List.getElem?_eq_getElem (by rw [← hw.len]; exact hk)⟩
    exact (hw.ws k w x hx hx2).2.1
  · have hm : (atDK D n a b).made.length = D.made.length := applyW_len _ _
    refine hq c (atDK D n a b) S' ⟨hle, hf⟩ hI (fun i hi => ?_) rfl hm
    obtain ⟨g1, o, g2, g3⟩ := hw.at n hn i (by rw [← hm]; exact hi)
    refine ⟨g1, o, g2, g3.keep fun x hx => ?_⟩
    subst hx
    exact hf x (wf _ _ g3.2.2)

/-- what the law keeps: a base, records -/
structure LW (S : MS) (d : Nat) (D : DK) (j : Nat) (rv : Value) (bv lv : Value) (base : List UInt8) (rs : List (List UInt8)) : Prop where
  b : RB S bv base
  bo : ∀ y, On bv y → Fr S d D j rv y
  ex : ∃ rl, SlF svF 1 S 0 lv rl ∧ RBs S rl rs ∧ (∀ y, ¬ Av lv y → Fr S d D j rv y) ∧ ∀ x ∈ rl, ∀ y, On x.v y → Fr S d D j rv y
theorem LW.keep {S S' : MS} {d j j' : Nat} {D D' : DK} {rv rv' bv lv : Value} {base : List UInt8} {rs : List (List UInt8)} (h : LW S d D j rv bv lv base rs) (hk : ∀ y, Fr S d D j rv y → S'.m y = S.m y ∧ Fr S' d D' j' rv' y) : LW S' d D' j' rv' bv lv base rs := by
  obtain ⟨rl, h1, h2, h3, h4⟩ := h.ex
  exact ⟨h.b.keepOn fun y hy => (hk y (h.bo y hy)).1, fun y hy => (hk y (h.bo y hy)).2, rl, h1.keep1 fun y k hy _ => (hk y (h3 y hy)).1, ⟨h2.1, fun i x r hx hr => (h2.2 i x r hx hr).keepOn fun y hy => (hk y (h4 x (List.mem_of_getElem? hx) y hy)).1⟩, fun y hy => (hk y (h3 y hy)).2, fun x hx y hy => (hk y (h4 x hx y hy)).2⟩
theorem LW.old {S S' : MS} {d j : Nat} {D : DK} {rv bv lv : Value} {base : List UInt8} {rs : List (List UInt8)} (h : LW S d D j rv bv lv base rs) (f : Old S S') : LW S' d D j rv bv lv base rs := h.keep fun y hy => ⟨f.2 y hy.1.1, hy.old f⟩
end Go.Proofs.Ytmfmbadfgnhonaa

