/-
  The walk through the journal's code: what its functions do to memory, part FmJ31. Nothing is asked.
-/
import Derived.Test.YtmfmbadfgnhonaaFmJ30
set_option linter.all false
namespace Go.Proofs.Ytmfmbadfgnhonaa
open Go Go.Ag
set_option linter.unusedVariables false
set_option maxRecDepth 100000

/-- the blocks that there were ahead of all stay, and are not the disk's -/
def BF (S0 S : MS) (d : Nat) (D : DK) : Prop := ∀ y, y < S0.n → FrD S d D y ∧ S.m y = S0.m y
theorem BF.old {S0 S S' : MS} {d : Nat} {D : DK} (h : BF S0 S d D) (f : Old S S') : BF S0 S' d D := fun y hy => ⟨(h y hy).1.old f, (f.2 y (h y hy).1.1).trans (h y hy).2⟩
theorem BF.goes {S0 S S' : MS} {d : Nat} {D D' : DK} {c0 : Nat → List UInt8} {W V : List (Nat × List UInt8)} (h : BF S0 S d D) (g : Goes S d D c0 W S' D' V) : BF S0 S' d D' := fun y hy => by
  obtain ⟨h1, h2⟩ := g.fr y (h y hy).1
  exact ⟨h2, h1.trans (h y hy).2⟩
theorem BF.rb {S0 S : MS} {d : Nat} {D : DK} {v : Value} {bs : List UInt8} (h : BF S0 S d D) (wf : S0.WF) (hv : RB S0 v bs) : RB S v bs := hv.keep wf fun y hy => (h y hy).2
theorem BF.on {S0 S : MS} {d : Nat} {D : DK} {v : Value} {bs : List UInt8} (h : BF S0 S d D) (wf : S0.WF) (hv : RB S0 v bs) : ∀ y, On v y → FrD S d D y := fun y hy => (h y (hv.on_lt wf hy)).1
/-- only the disk's struct is changed: its flags -/
theorem flagsW {S S' : MS} {d : Nat} {D D' : DK} {c0 : Nat → List UInt8} {W : List (Nat × List UInt8)} (h : IsD S d D) (hw : HW S D c0 W) (h1 : D'.made = D.made) (h2 : D'.now = D.now) (h3 : D'.ws = D.ws) (h4 : D'.nb = D.nb) (h5 : D'.wb = D.wb) (h6 : D'.mb = D.mb) (hn : S'.n = S.n) (hm : ∀ x, x ≠ d → S'.m x = S.m x) : HW S' D' c0 W ∧ ∀ y, FrD S d D y → S'.m y = S.m y ∧ FrD S' d D' y := by
  refine ⟨(hw.keep fun x hx => hm x fun e => ?_).same h1 h2 h3, fun y hy => ⟨hm y hy.2.1, by rw [hn]; exact hy.1, hy.2.1, by rw [h4]; exact hy.2.2.1, by rw [h3, h5]; exact hy.2.2.2.1, by rw [h6]; exact hy.2.2.2.2⟩⟩
  subst e
  obtain ⟨l, h1, h2⟩ := hx
  rw [h.hd] at h1
  injection h1 with h1; injection h1 with h1 _
  rw [← h1] at h2
  simp [dlen] at h2
theorem haltW {S : MS} {d : Nat} {D : DK} {c0 : Nat → List UInt8} {W : List (Nat × List UInt8)} (h : IsD S d D) (hw : HW S D c0 W) (n : Int) {Q : Value → MS → Prop} (hq : ∀ v S', IsD S' d (haltD D n) → HW S' (haltD D n) c0 W → S'.n = S.n → (∀ x, x ≠ d → S'.m x = S.m x) → (∀ y, FrD S d D y → S'.m y = S.m y ∧ FrD S' d (haltD D n) y) → Q v S') : CallM Try.prog O 16 [.pointer (some ⟨d, 0, none⟩), .int .i64 n] S Q :=
  (haltsD h n).mono fun v S' ⟨h1, h2, h3⟩ => by
    obtain ⟨g1, g2⟩ := flagsW (D' := haltD D n) h hw rfl rfl rfl rfl rfl rfl h2 h3
    exact hq v S' h1 g1 h2 h3 g2
theorem restartW {S : MS} {d : Nat} {D : DK} {c0 : Nat → List UInt8} {W : List (Nat × List UInt8)} (h : IsD S d D) (hw : HW S D c0 W) {Q : Value → MS → Prop} (hq : ∀ v S', IsD S' d (restartD D) → HW S' (restartD D) c0 W → S'.n = S.n → (∀ x, x ≠ d → S'.m x = S.m x) → (∀ y, FrD S d D y → S'.m y = S.m y ∧ FrD S' d (restartD D) y) → Q v S') : CallM Try.prog O 18 [.pointer (some ⟨d, 0, none⟩)] S Q :=
  (restartsD h).mono fun v S' ⟨h1, h2, h3⟩ => by
    obtain ⟨g1, g2⟩ := flagsW (D' := restartD D) h hw rfl rfl rfl rfl rfl rfl h2 h3
    exact hq v S' h1 g1 h2 h3 g2
theorem BF.flags {S0 S S' : MS} {d : Nat} {D D' : DK} (h : BF S0 S d D) (hk : ∀ y, FrD S d D y → S'.m y = S.m y ∧ FrD S' d D' y) : BF S0 S' d D' := fun y hy => by
  obtain ⟨h1, h2⟩ := hk y (h y hy).1
  exact ⟨h2, h1.trans (h y hy).2⟩
/-- a part of a Format leaves noughts -/
theorem formW_part {c : Nat → List UInt8} {n k : Nat} {b : List UInt8} (hk1 : 1 ≤ k) (hk : k < (formW n b).length) : appC c ((formW n b).take k) 0 = List.replicate 256 0 := by
  obtain ⟨k, rfl⟩ : ∃ m, k = m + 1 := ⟨k - 1, by omega⟩
  unfold formW snapW at hk ⊢
  rw [List.length_cons, List.length_append, piecesN_len] at hk
  simp only [List.length_cons, List.length_nil] at hk
  rw [List.take_succ_cons, take_app_le _ _ (by rw [piecesN_len]; omega)]
  show appC (fun j => if j = 0 then List.replicate 256 0 else c j) ((piecesN (laid b) (placeN n 0)).take k) 0 = _
  rw [appC_pieces _ _ _ _ (by omega), if_neg (by unfold placeN; omega)]
  exact if_pos rfl
end Go.Proofs.Ytmfmbadfgnhonaa

