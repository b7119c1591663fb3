/-
  The walk through the journal's code: what its functions do to memory, part FmJ29. Nothing is asked.
-/
import Derived.Test.YtmfmbadfgnhonaaFmJ28
set_option linter.all false
namespace Go.Proofs.Ytmfmbadfgnhonaa
open Go Go.Ag
set_option linter.unusedVariables false
set_option maxRecDepth 100000

theorem HW.lens {S : MS} {D : DK} {c0 : Nat → List UInt8} {W : List (Nat × List UInt8)} (h : HW S D c0 W) : Len D.made.length (appC c0 W) := fun i hi => (h.holds i hi).1

/-- a journal, alive, on a disk that says what it says -/
structure PJ (S : MS) (d : Nat) (D : DK) (c0 : Nat → List UInt8) (W : List (Nat × List UInt8)) (j : Nat) (rv : Value) (half : Nat) (base : List UInt8) (rs : List (List UInt8)) : Prop where
  is : IsD S d D
  hw : HW S D c0 W
  jj : JJ S d D j rv half (liveN base rs) base rs false
  says : Says D.made.length (appC c0 W) half (liveN base rs) base rs
  n : 64 ≤ D.made.length ∧ D.made.length ≤ 2000
  live : liveN base rs ≤ 32 * D.made.length
theorem PJ.old {S S' : MS} {d j : Nat} {D : DK} {c0 : Nat → List UInt8} {W : List (Nat × List UInt8)} {rv : Value} {half : Nat} {base : List UInt8} {rs : List (List UInt8)} (h : PJ S d D c0 W j rv half base rs) (wf : S.WF) (f : Old S S') : PJ S' d D c0 W j rv half base rs :=
  ⟨h.is.old' wf f, h.hw.old wf f, h.jj.old f, h.says, h.n, h.live⟩
/-- a disk that runs on -/
def Runs (D : DK) : Prop := D.cut = false ∧ D.halt = -1

theorem appW_len {n half : Nat} {base b : List UInt8} {rs : List (List UInt8)} (h : b.length ≤ 65536) : (appW n half base rs b).length ≤ 300 := by
  have := lastB_len base rs b
  unfold appW
  rw [List.length_append, piecesN_len]
  unfold pieceK
  simp only [List.length_cons, List.length_nil]
  omega
theorem snapW_len {n half : Nat} {b : List UInt8} (h : b.length ≤ 65536) : (snapW n half b).length ≤ 300 := by
  have := laid_len b
  unfold snapW
  rw [List.length_append, piecesN_len]
  unfold pieceK
  simp only [List.length_cons, List.length_nil]
  omega
theorem formW_len {n : Nat} {b : List UInt8} (h : b.length ≤ 65536) : (formW n b).length ≤ 301 := by
  have := @snapW_len n 0 b h
  unfold formW
  simp only [List.length_cons]
  omega
theorem formW_says {n : Nat} {c : Nat → List UInt8} (hl : Len n c) (hn : 64 ≤ n) (b : List UInt8) (hb : b.length + 8 ≤ 32 * n) : Says n (appC c (formW n b)) 0 (liveN b []) b [] := by
  have e : appC c (formW n b) = appC (fun j => if j = 0 then List.replicate 256 0 else c j) (snapW n 0 b) := rfl
  rw [e]
  unfold snapW
  refine snap_all (fun i hi => ?_) (by omega) (by omega) b (by rw [laid_len]; omega)
  show (if i = 0 then List.replicate 256 0 else c i).length = 256
  split
  · rw [List.length_replicate]
  · exact hl i hi

/-- Append, on a disk that runs on -/
theorem PJ.append {S : MS} {d j : Nat} {D : DK} {c0 : Nat → List UInt8} {W : List (Nat × List UInt8)} {rv v : Value} {half : Nat} {base b : List UInt8} {rs : List (List UInt8)} (h : PJ S d D c0 W j rv half base rs) (hr : Runs D) (hb : RB S v b) (hon : ∀ y, On v y → Fr S d D j rv y) (hbl : b.length ≤ 65536) (hws : D.ws.length ≤ 900000) {Q : Value → MS → Prop}
    (q0 : 32 * D.made.length < liveN base (rs ++ [b]) → Q (.int .i64 192) S)
    (q1 : liveN base (rs ++ [b]) ≤ 32 * D.made.length → ∀ S' D' rv', JGo S d D c0 W j rv S' D' rv' (appW D.made.length half base rs b) → PJ S' d D' c0 (W ++ appW D.made.length half base rs b) j rv' half base (rs ++ [b]) → Runs D' → D'.ws.length ≤ D.ws.length + 300 → D'.made.length = D.made.length → Q (.int .i64 0) S') :
    CallM Try.prog O 11 [.pointer (some ⟨j, 0, none⟩), v] S Q := by
  have hn := h.n
  refine append11 h.is h.hw h.jj h.n h.says.hh h.live hb hon hbl hws (by rw [hr.2]; omega) q0 (fun hf S' D' rv' g jj => ?_) fun hf k S' D' hk hcut g _ => ?_
  · have hm := g.wn.made
    have hlv := g.wn.live hr.1 (by rw [hr.2]; omega)
    have hwl := g.wn.ws
    have hal := @appW_len D.made.length half base b rs hbl
    refine q1 hf S' D' rv' g ⟨g.is, g.hw, jj, ?_, by rw [hm]; exact h.n, by rw [hm]; exact hf⟩ ⟨hlv.1, hlv.2.trans hr.2⟩ (by omega) (by rw [hm])
    rw [hm, appC_app]
    exact app_all h.says h.hw.lens (by omega) b (by omega)
  · have := (g.wn.live hr.1 (by rw [hr.2]; omega)).1
    rw [hcut] at this; cases this
/-- Open: another journal on the same disk -/
theorem openP {S : MS} {d : Nat} {D : DK} {c0 : Nat → List UInt8} {W : List (Nat × List UInt8)} {half end' : Nat} {base : List UInt8} {rs : List (List UInt8)} (h : IsD S d D) (hw : HW S D c0 W) (hcut : D.cut = false) (hn : 64 ≤ D.made.length ∧ D.made.length ≤ 2000) (hs : Says D.made.length (appC c0 W) half end' base rs) (hl : liveN base rs ≤ 32 * D.made.length) {Q : Value → MS → Prop}
    (hq : ∀ j rv S', Old S S' → S.n ≤ j → (∀ y, ¬ Av rv y → S.n ≤ y) → PJ S' d D c0 W j rv half base rs → Q (.tuple #[.pointer (some ⟨j, 0, none⟩), .int .i64 0]) S') : CallM Try.prog O 10 [.pointer (some ⟨d, 0, none⟩)] S Q := by
  refine callM_wf fun wf => open10 h hw.holds hcut hn hs fun j rv S' f h1 h2 jj => hq j rv S' f h1 h2 ⟨h.old' wf f, hw.old wf f, hs.he ▸ jj, hs.he ▸ hs, hn, hl⟩
/-- Format and Open, on a disk that runs on -/
theorem formatP {S : MS} {d : Nat} {D : DK} {c0 : Nat → List UInt8} {W : List (Nat × List UInt8)} {v : Value} {b : List UInt8} (h : IsD S d D) (hw : HW S D c0 W) (hr : Runs D) (hn : 64 ≤ D.made.length ∧ D.made.length ≤ 2000) (hb : RB S v b) (hon : ∀ y, On v y → FrD S d D y) (hbl : b.length + 8 ≤ 32 * D.made.length) (hws : D.ws.length ≤ 900000) {Q : Value → MS → Prop}
    (q1 : ∀ S' D', Goes S d D c0 W S' D' (formW D.made.length b) → Says D'.made.length (appC c0 (W ++ formW D.made.length b)) 0 (liveN b []) b [] → Runs D' → D'.ws.length ≤ D.ws.length + 301 → D'.made.length = D.made.length → Q (.int .i64 0) S') :
    CallM Try.prog O 9 [.pointer (some ⟨d, 0, none⟩), v] S Q := by
  refine format9 h hw hn hb hon hbl hws (by rw [hr.2]; omega) (fun S' D' g => ?_) fun k S' D' hk hcut g => ?_
  · have hm := g.wn.made
    have hlv := g.wn.live hr.1 (by rw [hr.2]; omega)
    have hwl := g.wn.ws
    have hal := @formW_len D.made.length b (by omega)
    refine q1 S' D' g ?_ ⟨hlv.1, hlv.2.trans hr.2⟩ (by omega) (by rw [hm])
    rw [hm, appC_app]
    exact formW_says hw.lens (by omega) b hbl
  · have := (g.wn.live hr.1 (by rw [hr.2]; omega)).1
    rw [hcut] at this; cases this
/-- a new disk -/
theorem newW {S : MS} (n a : Nat) (d : Nat) (h : IsD S d (newDK a n)) : HW S (newDK a n) (fun _ => List.replicate 256 0) [] := by
  refine ⟨fun i hi => ⟨by simp, none, ?_, ?_⟩, rfl, rfl, fun k w x h1 => by cases h1⟩
  · have : i < n := by simpa [newDK] using hi
    simp [newDK, this]
  · exact ⟨by rw [bL_len]; simp, bL_one _, bL_rep 256⟩
end Go.Proofs.Ytmfmbadfgnhonaa

