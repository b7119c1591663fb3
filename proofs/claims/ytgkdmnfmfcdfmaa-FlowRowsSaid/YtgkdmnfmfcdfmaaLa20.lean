/-
  The walk through the code of blocks and of what is reached, part L20: what its functions do to memory. Nothing is asked.
-/
import Derived.Test.YtgkdmnfmfcdfmaaLa19
set_option linter.all false
namespace Go.Proofs.Ytgkdmnfmfcdfmaa
open Go Go.Ag
set_option linter.unusedVariables false
set_option maxRecDepth 100000

structure FH10 (Sf : MS) (n : Nat) (rr : Int) (sv : Value) (rb gb : Nat) (w : Value) (l : List Op5) (T : FT) (S : MS) : Prop where
  old : ∀ y, y < Sf.n → S.m y = Sf.m y
  fb2 : Sf.n < S.n
  fbc : S.m Sf.n = some (.cells [.int .i64 rr, w] 0)
  w : SlF opL 5 S (Sf.n + 1) w l
  t1 : T.get 1 = .pointer (some ⟨gb, 0, none⟩)
  t2 : T.get 2 = .pointer (some ⟨rb, 0, none⟩)
  t4 : T.get 4 = sv
  t7 : T.get 7 = .pointer (some ⟨Sf.n, 0, none⟩)

theorem FH10.keep {Sf S S' : MS} {n rb gb : Nat} {rr : Int} {sv w : Value} {l : List Op5} {T T' : FT} (h : FH10 Sf n rr sv rb gb w l T S) (wf : S.WF) (hk : ∀ y, y < S.n → S'.m y = S.m y) (hn : S.n ≤ S'.n) (t1 : T'.get 1 = T.get 1) (t2 : T'.get 2 = T.get 2) (t4 : T'.get 4 = T.get 4) (t7 : T'.get 7 = T.get 7) : FH10 Sf n rr sv rb gb w l T' S' :=
  have h2 := h.fb2
  ⟨fun y hy => (hk y (by omega)).trans (h.old y hy), by omega, (hk _ h2).trans h.fbc, h.w.keep fun y k hy => hk y (wf y k hy), t1.trans h.t1, t2.trans h.t2, t4.trans h.t4, t7.trans h.t7⟩

theorem FH10.push {Sf S : MS} {n rb gb : Nat} {rr : Int} {sv w x : Value} {l new : List Op5} {T : FT} (h : FH10 Sf n rr sv rb gb w l T S) (wf : S.WF) (hl : lenOfA x = some new.length) (hf : firstCellsM S 5 new.length x = some (new.flatMap opL)) (hsm : l.length + new.length ≤ 3000000) :
    ∃ w' S1 S2, apS false 5 40 [.int .i64 0, .int .i64 0, .int .i64 0, .int .i64 0, .int .i64 0] S [w, x] = some (w', S1) ∧ stS 1 S1 (.pointer (some ⟨Sf.n, 0 + 1, none⟩)) w' = some S2 ∧ S.n ≤ S2.n ∧ (∀ T', T'.get 1 = T.get 1 → T'.get 2 = T.get 2 → T'.get 4 = T.get 4 → T'.get 7 = T.get 7 → FH10 Sf n rr sv rb gb w' (l ++ new) T' S2) ∧ (∀ y, Sf.n < y → y < S.n → Av w y → S2.m y = S.m y) ∧ ∀ y, y < S.n → Av w y → Av w' y := by
  have h2 := h.fb2
  obtain ⟨w', S1, a1, a2, a3, a4, a5⟩ := h.w.app2 (bytes := 40) (z := [.int .i64 0, .int .i64 0, .int .i64 0, .int .i64 0, .int .i64 0]) opL_len opL_one (by decide) wf (by omega) hl hf (by omega) (by omega)
  have lo : ∀ y, y < Sf.n + 1 → S1.m y = S.m y := fun y hy => a4 y (by omega) (h.w.av hy)
  obtain ⟨S2, u1, u2, u3, u4⟩ := st_one (off := 1) (v := w') ((lo Sf.n (by omega)).trans h.fbc) (by simp) (SlF.one a2).1 (SlF.one a2).2
  have hw2 : SlF opL 5 S2 (Sf.n + 1) w' (l ++ new) := a2.keep1 fun y k hy _ => u4 y fun e => by subst e; exact hy (a2.av (by omega))
  refine ⟨w', S1, S2, a1, u1, by omega, fun T' e1 e2 e4 e7 => ⟨fun y hy => ?_, by omega, u2, hw2, e1.trans h.t1, e2.trans h.t2, e4.trans h.t4, e7.trans h.t7⟩, fun y hy1 hy2 hv => ?_, a5⟩
  · rw [u4 y (by omega), lo y (by omega)]; exact h.old y hy
  · rw [u4 y (by omega)]; exact a4 y hy2 hv

end Go.Proofs.Ytgkdmnfmfcdfmaa

