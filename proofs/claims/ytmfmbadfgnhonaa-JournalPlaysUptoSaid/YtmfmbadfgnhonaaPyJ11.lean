/-
  The walk through the journal's code: what its functions do to memory, part PyJ11. Nothing is asked.
-/
import Derived.Test.YtmfmbadfgnhonaaPyJ10
set_option linter.all false
namespace Go.Proofs.Ytmfmbadfgnhonaa
open Go Go.Ag
set_option linter.unusedVariables false
set_option maxRecDepth 100000

/-- the blocks that there were ahead of all stay, and are not the disk's -/
def BF (S0 S : MS) (d : Nat) (D : DK) : Prop := ∀ y, y < S0.n → FrD S d D y ∧ S.m y = S0.m y
theorem BF.old {S0 S S' : MS} {d : Nat} {D : DK} (h : BF S0 S d D) (f : Old S S') : BF S0 S' d D := fun y hy => ⟨(h y hy).1.old f, (f.2 y (h y hy).1.1).trans (h y hy).2⟩
theorem BF.goes {S0 S S' : MS} {d : Nat} {D D' : DK} {c0 : Nat → List UInt8} {W V : List (Nat × List UInt8)} (h : BF S0 S d D) (g : Goes S d D c0 W S' D' V) : BF S0 S' d D' := fun y hy => by
  obtain ⟨h1, h2⟩ := g.fr y (h y hy).1
  exact ⟨h2, h1.trans (h y hy).2⟩
theorem BF.rb {S0 S : MS} {d : Nat} {D : DK} {v : Value} {bs : List UInt8} (h : BF S0 S d D) (wf : S0.WF) (hv : RB S0 v bs) : RB S v bs := hv.keep wf fun y hy => (h y hy).2
theorem BF.on {S0 S : MS} {d : Nat} {D : DK} {v : Value} {bs : List UInt8} (h : BF S0 S d D) (wf : S0.WF) (hv : RB S0 v bs) : ∀ y, On v y → FrD S d D y := fun y hy => (h y (hv.on_lt wf hy)).1
/-- only the disk's struct is changed: its flags -/
theorem flagsW {S S' : MS} {d : Nat} {D D' : DK} {c0 : Nat → List UInt8} {W : List (Nat × List UInt8)} (h : IsD S d D) (hw : HW S D c0 W) (h1 : D'.made = D.made) (h2 : D'.now = D.now) (h3 : D'.ws = D.ws) (h4 : D'.nb = D.nb) (h5 : D'.wb = D.wb) (h6 : D'.mb = D.mb) (hn : S'.n = S.n) (hm : ∀ x, x ≠ d → S'.m x = S.m x) : HW S' D' c0 W ∧ ∀ y, FrD S d D y → S'.m y = S.m y ∧ FrD S' d D' y := by
  refine ⟨(hw.keep fun x hx => hm x fun e => ?_).same h1 h2 h3, fun y hy => ⟨hm y hy.2.1, by rw [hn]; exact hy.1, hy.2.1, by rw [h4]; exact hy.2.2.1, by rw [h3, h5]; exact hy.2.2.2.1, by rw [h6]; exact hy.2.2.2.2⟩⟩
  subst e
  obtain ⟨l, h1, h2⟩ := hx
  rw [h.hd] at h1
  injection h1 with h1; injection h1 with h1 _
  rw [← h1] at h2
  simp [dlen] at h2
theorem haltW {S : MS} {d : Nat} {D : DK} {c0 : Nat → List UInt8} {W : List (Nat × List UInt8)} (h : IsD S d D) (hw : HW S D c0 W) (n : Int) {Q : Value → MS → Prop} (hq : ∀ v S', IsD S' d (haltD D n) → HW S' (haltD D n) c0 W → S'.n = S.n → (∀ x, x ≠ d → S'.m x = S.m x) → (∀ y, FrD S d D y → S'.m y = S.m y ∧ FrD S' d (haltD D n) y) → Q v S') : CallM Try.prog O 16 [.pointer (some ⟨d, 0, none⟩), .int .i64 n] S Q :=
  (haltsD h n).mono fun v S' ⟨h1, h2, h3⟩ => by
    obtain ⟨g1, g2⟩ := flagsW (D' := haltD D n) h hw rfl rfl rfl rfl rfl rfl h2 h3
    exact hq v S' h1 g1 h2 h3 g2
theorem restartW {S : MS} {d : Nat} {D : DK} {c0 : Nat → List UInt8} {W : List (Nat × List UInt8)} (h : IsD S d D) (hw : HW S D c0 W) {Q : Value → MS → Prop} (hq : ∀ v S', IsD S' d (restartD D) → HW S' (restartD D) c0 W → S'.n = S.n → (∀ x, x ≠ d → S'.m x = S.m x) → (∀ y, FrD S d D y → S'.m y = S.m y ∧ FrD S' d (restartD D) y) → Q v S') : CallM Try.prog O 18 [.pointer (some ⟨d, 0, none⟩)] S Q :=
  (restartsD h).mono fun v S' ⟨h1, h2, h3⟩ => by
    obtain ⟨g1, g2⟩ := flagsW (D' := restartD D) h hw rfl rfl rfl rfl rfl rfl h2 h3
    exact hq v S' h1 g1 h2 h3 g2
theorem BF.flags {S0 S S' : MS} {d : Nat} {D D' : DK} (h : BF S0 S d D) (hk : ∀ y, FrD S d D y → S'.m y = S.m y ∧ FrD S' d D' y) : BF S0 S' d D' := fun y hy => by
  obtain ⟨h1, h2⟩ := hk y (h y hy).1
  exact ⟨h2, h1.trans (h y hy).2⟩
end Go.Proofs.Ytmfmbadfgnhonaa
namespace Go.Proofs.Ytmfmbadfgnhonaa
open Go Go.Ag
set_option linter.unusedVariables false
set_option maxRecDepth 100000

/-! ### a list that the law itself keeps: it grows by a copy -/
/-- all but the room -/
theorem SlF.cut {S : MS} {B : Nat} {v : Value} {l : List Sv} (h : SlF svF 1 S B v l) (hl : l.length ≤ 100000) : ∃ v', slS 1 S v none (some (.int .i64 l.length)) (some (.int .i64 l.length)) = some v' ∧ ((v' = .slice none 0 0 ∧ l = []) ∨ ∃ b junk, v' = .slice (some ⟨b, 0, none⟩) l.length l.length ∧ S.m b = some (.cells ((l ++ junk).flatMap svF) 1)) := by
  have hunk : (4000000 : Nat) < unk := by decide
  cases h with
  | non => exact ⟨.slice none 0 0, rfl, .inl ⟨rfl, rfl⟩⟩
  | own hb hB hc hj =>
    rename_i b cap junk
    have hab : ∀ c, l.length ≤ c → abounds l.length c none (some (.int .i64 (l.length : Int))) (some (.int .i64 (l.length : Int))) = some (0, l.length, l.length) := by
      intro c hc
      unfold abounds
      simp only [intIn_of hc, intIn_of (Nat.le_refl l.length), Option.bind_some]
    refine ⟨.slice (some ⟨b, 0, none⟩) l.length l.length, ?_, .inr ⟨b, junk, rfl, hb⟩⟩
    rw [slS_own3]
    have hcl : ((l ++ junk).flatMap svF).length = l.length + junk.length := by rw [fm_len sv_len, List.length_append]; omega
    rcases hc with rfl | ⟨h1, h2⟩
    · have hN : l.length ≤ Nat.max l.length ((((l ++ junk).flatMap svF).length - 0) / 1) := Nat.le_max_left _ _
      simp only [Nat.beq_refl, if_true, hb, Option.bind_some]
      rw [if_pos (by simp), hab _ hN]
      simp only [Option.bind_some, Nat.zero_mul, Nat.add_zero, Nat.sub_zero]
      rw [if_pos (by rw [Bool.and_eq_true, Nat.blt_eq]; omega)]
    · rw [List.length_append] at h2
      rw [if_neg (by rw [Nat.beq_eq]; omega), if_pos (by rw [Nat.blt_eq]; exact h1), hab cap (by omega)]
      simp only [Option.bind_some, Nat.zero_mul, Nat.add_zero, Nat.sub_zero]
/-- one more, where there is no room: a new block -/
theorem SlF.grow {S : MS} {v' x : Value} {l : List Sv} {s : Sv} (wf : S.WF) (h : (v' = .slice none 0 0 ∧ l = []) ∨ ∃ b junk, v' = .slice (some ⟨b, 0, none⟩) l.length l.length ∧ S.m b = some (.cells ((l ++ junk).flatMap svF) 1)) (hl : l.length ≤ 100000) (hx : lenOfA x = some 1) (hf : firstCellsM S 1 1 x = some [s.v]) :
    ∃ v2 S', apS false 1 24 [.slice none 0 0] S [v', x] = some (v2, S') ∧ SlF svF 1 S' S.n v2 (l ++ [s]) ∧ Old S S' := by
  rcases h with ⟨rfl, rfl⟩ | ⟨b, junk, rfl, hb⟩
  · obtain ⟨v2, S', a1, a2, a3, a4, a5⟩ := (SlF.non (f := svF) (sz := 1) (S := S) (B := S.n)).app2 (bytes := 24) (z := [.slice none 0 0]) sv_len sv_one (by decide) (x := x) (new := [s]) wf (Nat.le_refl _) hx hf (by simp) (by simp)
    exact ⟨v2, S', a1, a2, a3, fun y hy => a4 y hy (fun l c e => by cases e)⟩
  · by_cases h0 : l.length = 0
    · have : l = [] := List.length_eq_zero_iff.1 h0
      subst this
      have hcl : ((([] : List Sv) ++ junk).flatMap svF).length = junk.length := by rw [fm_len sv_len]; simp
      refine ⟨_, _, by
        unfold apS appendedM
        simp only [Bool.false_eq_true, if_false, hx, Option.bind_some, hf, Option.map_some, List.length_cons, List.length_nil, Nat.beq_refl, hb]
        rw [if_pos (by rfl), if_neg (by decide), if_neg (by decide), if_neg (by decide), if_pos ⟨by decide, by decide, by omega⟩], ?_, old_fresh S _ _⟩
      exact .own (l := [s]) (junk := []) (fresh_at _ _ _) (Nat.le_refl _) (.inl rfl) (by simp)
    · have hunk : (100000 : Nat) < unk := by decide
      have hcl : ((l ++ junk).flatMap svF).length = l.length + junk.length := by rw [fm_len sv_len, List.length_append]; omega
      have e0 : (List.drop 0 ((l ++ junk).flatMap svF)).take (l.length * 1) ++ [s.v] = ((l ++ [s]) ++ []).flatMap svF := by
        rw [List.drop_zero, fm_take sv_len, List.append_nil, List.flatMap_append]; rfl
      refine ⟨_, _, by
        unfold apS appendedM
        simp only [Bool.false_eq_true, if_false, hx, Option.bind_some, hf, Option.map_some, List.length_cons, List.length_nil, Nat.beq_refl, hb]
        rw [if_pos (by rfl), if_neg (by decide), if_neg (by rw [Nat.beq_eq]; omega), if_neg (by rw [Nat.ble_eq]; omega), if_pos ⟨by omega, by omega, by omega⟩, e0], ?_, old_fresh S _ _⟩
      have e1 : l.length + (0 + 1) = (l ++ [s]).length := by simp
      rw [e1]
      exact .own (junk := []) (fresh_at _ _ _) (Nat.le_refl _) (.inl rfl) (by simp; omega)
end Go.Proofs.Ytmfmbadfgnhonaa
namespace Go.Proofs.Ytmfmbadfgnhonaa
open Go Go.Ag
set_option linter.unusedVariables false
set_option maxRecDepth 100000

/-! ### moments -/
theorem app_moment {n : Nat} {c : Nat → List UInt8} {half : Nat} {base : List UInt8} {rs : List (List UInt8)} (h : Says n c half (liveN base rs) base rs) (hl : Len n c) (hn : 1 ≤ n) (b : List UInt8) {k : Nat} (hk : k < (appW n half base rs b).length) : Says n (appC c ((appW n half base rs b).take k)) half (liveN base rs) base rs := by
  unfold appW at hk ⊢
  rw [List.length_append, piecesN_len] at hk
  simp only [List.length_cons, List.length_nil] at hk
  rw [take_app_le _ _ (by rw [piecesN_len]; omega)]
  exact app_part h hl hn b (by omega)
theorem snap_moment {n : Nat} {c : Nat → List UInt8} {half : Nat} {base : List UInt8} {rs : List (List UInt8)} (h : Says n c half (liveN base rs) base rs) (hl : Len n c) (hn : 1 ≤ n) (b : List UInt8) (hb : (laid b).length ≤ (n - 1) / 2 * 256) {k : Nat} (hk : k < (snapW n (1 - half) b).length) : Says n (appC c ((snapW n (1 - half) b).take k)) half (liveN base rs) base rs := by
  unfold snapW at hk ⊢
  rw [List.length_append, piecesN_len] at hk
  simp only [List.length_cons, List.length_nil] at hk
  rw [take_app_le _ _ (by rw [piecesN_len]; omega)]
  exact snap_part h hl hn b hb (by omega)
/-- what the law keeps: a base, records; their bytes in blocks below B0 -/
structure LW (B0 : Nat) (S : MS) (d : Nat) (D : DK) (j : Nat) (rv : Value) (bv lv : Value) (base : List UInt8) (rs : List (List UInt8)) : Prop where
  b : RB S bv base
  bo : ∀ y, On bv y → Fr S d D j rv y ∧ y < B0
  ex : ∃ rl, SlF svF 1 S 0 lv rl ∧ RBs S rl rs ∧ (∀ y, ¬ Av lv y → Fr S d D j rv y) ∧ ∀ x ∈ rl, ∀ y, On x.v y → Fr S d D j rv y ∧ y < B0
theorem LW.keep {B0 : Nat} {S S' : MS} {d j j' : Nat} {D D' : DK} {rv rv' bv lv : Value} {base : List UInt8} {rs : List (List UInt8)} (h : LW B0 S d D j rv bv lv base rs) (hk : ∀ y, Fr S d D j rv y → S'.m y = S.m y ∧ Fr S' d D' j' rv' y) : LW B0 S' d D' j' rv' bv lv base rs := by
  obtain ⟨rl, h1, h2, h3, h4⟩ := h.ex
  exact ⟨h.b.keepOn fun y hy => (hk y (h.bo y hy).1).1, fun y hy => ⟨(hk y (h.bo y hy).1).2, (h.bo y hy).2⟩, rl, h1.keep1 fun y k hy _ => (hk y (h3 y hy)).1, ⟨h2.1, fun i x r hx hr => (h2.2 i x r hx hr).keepOn fun y hy => (hk y (h4 x (List.mem_of_getElem? hx) y hy).1).1⟩, fun y hy => (hk y (h3 y hy)).2, fun x hx y hy => ⟨(hk y (h4 x hx y hy).1).2, (h4 x hx y hy).2⟩⟩
theorem LW.old {B0 : Nat} {S S' : MS} {d j : Nat} {D : DK} {rv bv lv : Value} {base : List UInt8} {rs : List (List UInt8)} (h : LW B0 S d D j rv bv lv base rs) (f : Old S S') : LW B0 S' d D j rv bv lv base rs := h.keep fun y hy => ⟨f.2 y hy.1.1, hy.old f⟩
end Go.Proofs.Ytmfmbadfgnhonaa

