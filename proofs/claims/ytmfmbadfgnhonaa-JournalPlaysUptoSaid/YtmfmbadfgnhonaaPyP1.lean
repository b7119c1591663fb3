/-
  The walk through the journal's code: what its functions do to memory, part PyP1. Nothing is asked.
-/
import Derived.Test.YtmfmbadfgnhonaaPyJ11
import Derived.Test.YtmfmbadfgnhonaaPyV
set_option linter.all false
namespace Go.Proofs.Ytmfmbadfgnhonaa
open Go Go.Ag
set_option linter.unusedVariables false
set_option maxRecDepth 100000

/-- a disk that runs on -/
def Runs (D : DK) : Prop := D.cut = false ∧ D.halt = -1
/-- a journal, alive or dead, on a disk that says what it says -/
structure PX (X : Nat → Prop) (S : MS) (d : Nat) (D : DK) (c0 : Nat → List UInt8) (W : List (Nat × List UInt8)) (j : Nat) (rv : Value) (half : Nat) (base : List UInt8) (rs : List (List UInt8)) (dead : Bool) : Prop where
  is : IsD S d D
  hw : HW S D c0 W
  jj : JJ X S d D j rv half (liveN base rs) base rs dead
  says : Says D.made.length (appC c0 W) half (liveN base rs) base rs
  n : 64 ≤ D.made.length ∧ D.made.length ≤ 2000
  live : liveN base rs ≤ 32 * D.made.length
theorem PX.old {X : Nat → Prop} {S S' : MS} {d j : Nat} {D : DK} {c0 : Nat → List UInt8} {W : List (Nat × List UInt8)} {rv : Value} {half : Nat} {base : List UInt8} {rs : List (List UInt8)} {dead : Bool} (h : PX X S d D c0 W j rv half base rs dead) (wf : S.WF) (f : Old S S') : PX X S' d D c0 W j rv half base rs dead :=
  ⟨h.is.old' wf f, h.hw.old wf f, h.jj.old f, h.says, h.n, h.live⟩
/-- what a journal's bytes don't stand in -/
theorem JJ.other {X X' : Nat → Prop} {S : MS} {d j : Nat} {D : DK} {rv : Value} {half end' : Nat} {base : List UInt8} {rs : List (List UInt8)} {dead : Bool} (h : JJ X S d D j rv half end' base rs dead) (hx : ∀ y, X' y → ¬ FrD S d D y ∨ X y) : JJ X' S d D j rv half end' base rs dead := by
  obtain ⟨bv, tv, rl, h1, h2, h3, h4, h5, h6⟩ := h.ex
  refine ⟨⟨bv, tv, rl, h1, h2, h3, h4, h5, fun y hy => ?_⟩, h.fj, h.frv⟩
  obtain ⟨g1, g2, g3, g4⟩ := h6 y hy
  exact ⟨g1, g2, g3, fun e => (hx y e).elim (fun h => h g1) g4⟩

/-- how a call leaves the rest -/
structure PG (S : MS) (d : Nat) (D : DK) (j : Nat) (rv : Value) (S' : MS) (D' : DK) (j' : Nat) (rv' : Value) : Prop where
  le : S.n ≤ S'.n
  fr : ∀ y, Fr S d D j rv y → S'.m y = S.m y ∧ Fr S' d D' j' rv' y
  made : D'.made.length = D.made.length
  ws : D'.ws.length ≤ D.ws.length + 300
  halt : D'.halt ≤ D.halt
theorem JGo.pg {S S' : MS} {d j : Nat} {D D' : DK} {c0 : Nat → List UInt8} {W V : List (Nat × List UInt8)} {rv rv' : Value} (h : JGo S d D c0 W j rv S' D' rv' V) (hv : V.length ≤ 300) : PG S d D j rv S' D' j rv' :=
  ⟨h.le, h.fr, by rw [h.wn.made], by have := h.wn.ws; omega, h.wn.halt⟩

theorem PX.append {X : Nat → Prop} {S : MS} {d j : Nat} {D : DK} {c0 : Nat → List UInt8} {W : List (Nat × List UInt8)} {rv v : Value} {half : Nat} {base b : List UInt8} {rs : List (List UInt8)} (h : PX X S d D c0 W j rv half base rs false) (hb : RB S v b) (hon : ∀ y, On v y → Fr S d D j rv y) (hX : ∀ y, X y → y < S.n) (hws : D.ws.length ≤ 900000) (hhalt : D.halt ≤ 9223372036854775807) {Q : Value → MS → Prop}
    (qL : 65536 < b.length → Q (.int .i64 193) S)
    (qF : b.length ≤ 65536 → 32 * D.made.length < liveN base (rs ++ [b]) → Q (.int .i64 192) S)
    (q0 : b.length ≤ 65536 → liveN base (rs ++ [b]) ≤ 32 * D.made.length → ∀ S' D' rv' W', PG S d D j rv S' D' j rv' → PX X S' d D' c0 W' j rv' half base (rs ++ [b]) false → Q (.int .i64 0) S')
    (q2 : b.length ≤ 65536 → liveN base (rs ++ [b]) ≤ 32 * D.made.length → ∀ S' D' W', PG S d D j rv S' D' j rv → PX X S' d D' c0 W' j rv half base rs true → Q (.int .i64 12) S') :
    CallM Try.prog O 11 [.pointer (some ⟨j, 0, none⟩), v] S Q := by
  have hn := h.n
  by_cases hl : 65536 < b.length
  · exact append11_long h.jj hb.len hl (qL hl)
  have hl : b.length ≤ 65536 := by omega
  have hal := @appW_len D.made.length half base b rs hl
  refine append11 h.is h.hw h.jj h.n h.says.hh h.live hb hon hl hws hhalt hX (qF hl) (fun hf S' D' rv' g jj => ?_) fun hf k S' D' hk hcut g jj => ?_
  · have hm := g.wn.made
    refine q0 hl hf S' D' rv' _ (g.pg hal) ⟨g.is, g.hw, jj, ?_, by rw [hm]; exact h.n, by rw [hm]; exact hf⟩
    rw [hm, appC_app]
    exact app_all h.says h.hw.lens (by omega) b (by omega)
  · have hm := g.wn.made
    refine q2 hl hf S' D' _ (g.pg (by rw [List.length_take]; omega)) ⟨g.is, g.hw, jj, ?_, by rw [hm]; exact h.n, by rw [hm]; exact h.live⟩
    rw [hm, appC_app]
    exact app_moment h.says h.hw.lens (by omega) b hk
theorem PX.snap {X : Nat → Prop} {S : MS} {d j : Nat} {D : DK} {c0 : Nat → List UInt8} {W : List (Nat × List UInt8)} {rv v : Value} {half : Nat} {base b : List UInt8} {rs : List (List UInt8)} (h : PX X S d D c0 W j rv half base rs false) (hb : RB S v b) (hon : ∀ y, On v y → Fr S d D j rv y) (hbl : b.length ≤ 4611686018427387904) (hX : ∀ y, X y → y < S.n) (hws : D.ws.length ≤ 900000) (hhalt : D.halt ≤ 9223372036854775807) {Q : Value → MS → Prop}
    (qF : 32 * D.made.length < b.length + 8 → Q (.int .i64 192) S)
    (q0 : b.length + 8 ≤ 32 * D.made.length → ∀ S' D' rv' half' W', PG S d D j rv S' D' j rv' → PX X S' d D' c0 W' j rv' half' b [] false → Q (.int .i64 0) S')
    (q2 : b.length + 8 ≤ 32 * D.made.length → ∀ S' D' W', PG S d D j rv S' D' j rv → PX X S' d D' c0 W' j rv half base rs true → Q (.int .i64 12) S') :
    CallM Try.prog O 12 [.pointer (some ⟨j, 0, none⟩), v] S Q := by
  have hn := h.n
  refine snap12 h.is h.hw h.jj h.n h.says.hh hb hon hbl hws hhalt hX qF (fun hf S' D' g jj => ?_) fun hf k S' D' hk hcut g jj => ?_
  · have hm := g.wn.made
    refine q0 hf S' D' _ _ _ (g.pg (snapW_len (by omega))) ⟨g.is, g.hw, jj, ?_, by rw [hm]; exact h.n, by rw [hm]; unfold liveN; simp [wsum]; omega⟩
    rw [hm, appC_app]
    exact snap_all h.hw.lens (by omega) (by omega) b (by rw [laid_len]; omega)
  · have hm := g.wn.made
    have := @snapW_len D.made.length (1 - half) b (by omega)
    refine q2 hf S' D' _ (g.pg (by rw [List.length_take]; omega)) ⟨g.is, g.hw, jj, ?_, by rw [hm]; exact h.n, by rw [hm]; exact h.live⟩
    rw [hm, appC_app]
    exact snap_moment h.says h.hw.lens (by omega) b (by rw [laid_len]; omega) hk
/-- only the disk's flags are changed -/
theorem PX.flags {X : Nat → Prop} {S S' : MS} {d j : Nat} {D D' : DK} {c0 : Nat → List UInt8} {W : List (Nat × List UInt8)} {rv : Value} {half : Nat} {base : List UInt8} {rs : List (List UInt8)} {dead : Bool} (h : PX X S d D c0 W j rv half base rs dead) (hm : D'.made = D.made) (h1 : IsD S' d D') (h2 : HW S' D' c0 W) (h3 : ∀ y, FrD S d D y → S'.m y = S.m y ∧ FrD S' d D' y) : PX X S' d D' c0 W j rv half base rs dead :=
  ⟨h1, h2, h.jj.keep h3, by rw [hm]; exact h.says, by rw [hm]; exact h.n, by rw [hm]; exact h.live⟩
theorem Fr.flags {S S' : MS} {d j : Nat} {D D' : DK} {rv : Value} (h3 : ∀ y, FrD S d D y → S'.m y = S.m y ∧ FrD S' d D' y) : ∀ y, Fr S d D j rv y → S'.m y = S.m y ∧ Fr S' d D' j rv y := fun y hy => ⟨(h3 y hy.1).1, (h3 y hy.1).2, hy.2⟩
/-- Open: another journal, alive, on the same disk -/
theorem openX {X : Nat → Prop} {S : MS} {d j : Nat} {D : DK} {c0 : Nat → List UInt8} {W : List (Nat × List UInt8)} {rv : Value} {half : Nat} {base : List UInt8} {rs : List (List UInt8)} {dead : Bool} (h : PX X S d D c0 W j rv half base rs dead) (hX : ∀ y, X y → y < S.n) (hcut : D.cut = false) {Q : Value → MS → Prop}
    (hq : ∀ j' rv' S', Old S S' → PG S d D j rv S' D j' rv' → PX X S' d D c0 W j' rv' half base rs false → Q (.tuple #[.pointer (some ⟨j', 0, none⟩), .int .i64 0]) S') : CallM Try.prog O 10 [.pointer (some ⟨d, 0, none⟩)] S Q := by
  refine callM_wf fun wf => open10 h.is h.hw.holds hcut h.n h.says hX fun j' rv' S' f h1 h2 jj => hq j' rv' S' f ⟨f.1, fun y hy => ⟨f.2 y hy.1.1, hy.1.old f, by have := hy.1.1; omega, Classical.byContradiction fun e => by have := h2 y e; have := hy.1.1; omega⟩, rfl, by omega, Int.le_refl _⟩ ⟨h.is.old' wf f, h.hw.old wf f, jj, h.says, h.n, h.live⟩
end Go.Proofs.Ytmfmbadfgnhonaa

