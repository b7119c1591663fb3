/-
  The walk through the journal's code: what its functions do to memory, part MoM1. Nothing is asked.
-/
import Derived.Test.YtmfmbadfgnhonaaMoJ17
import Derived.Test.YtmfmbadfgnhonaaMoV
set_option linter.all false
namespace Go.Proofs.Ytmfmbadfgnhonaa
open Go Go.Ag
set_option linter.unusedVariables false
set_option maxRecDepth 100000

/-- a list of bytes, as an argument -/
structure Arg2 (S : MS) (v : Value) (l : List (List UInt8)) : Prop where
  len : lenSl v = some (.int .i64 l.length)
  get : ∀ (k : Nat) b, l[k]? = some b → ∃ x o a, iaSS 1 v (.int .i64 (k : Int)) = some (.pointer (some ⟨a, o, none⟩)) ∧ ldS none S (.pointer (some ⟨a, o, none⟩)) = some x ∧ a < S.n ∧ RB S x b
theorem Arg2.at {S S' : MS} {v : Value} {l : List (List UInt8)} (h : Arg2 S v l) (wf : S.WF) (hk : ∀ y, y < S.n → S'.m y = S.m y) {k : Nat} {b : List UInt8} (hb : l[k]? = some b) : ∃ p x, iaSS 1 v (.int .i64 (k : Int)) = some p ∧ ldS none S' p = some x ∧ RB S' x b ∧ ∀ y, On x y → y < S.n := by
  obtain ⟨x, o, a, h1, h2, h3, h4⟩ := h.get k b hb
  refine ⟨_, x, h1, ?_, h4.keep wf hk, fun y hy => h4.on_lt wf hy⟩
  rw [ldS_ptr] at h2 ⊢
  unfold MS.list at h2 ⊢
  rw [hk a h3]; exact h2

def Kp (ks : List Nat) (T T' : FT) : Prop := ∀ k ∈ ks, T'.get k = T.get k

theorem was6 {S : MS} {T : FT} {j d half end' : Nat} {base tail a : List UInt8} {rs l : List (List UInt8)} {dead : Bool} {v w : Value} {B' : Nat} {rl : List Sv} (h : IsJ S j d 0 half end' base rs tail dead) (hl : liveN base rs ≤ 400000) (hv : RB S v a) (hw : SlF svF 1 S B' w rl) (hb : RBs S rl l) (t17 : T.get 17 = .pointer (some ⟨j, 0, none⟩)) (t8 : T.get 8 = v) (t9 : T.get 9 = w) {Q : FT → MS → Prop} (hq : ∀ T' S', Old S S' → Kp [0, 1, 5, 7, 8, 9, 10, 12, 13, 14, 17] T T' → T'.get 18 = .bool (decide (base = a ∧ rs = l)) → Q T' S') :
    S.WF → mOps Try.prog O 162 (ro 6 35).toList (ro 6 35).toList [] T S Q := by
  intro wf
  have hl2 := hl
  unfold liveN at hl2
  have hwl := wsum_len rs
  rw [reg6_35, t17, t8, t9]
  refine callM_wf_post (base25 h (by omega) fun v1 S1 f1 s1 wf1 => ?_)
  have h1 := h.old wf f1
  refine bytes24' (RB.own s1) (hv.keep wf f1.2) ⟨(base == a), rfl, fun e => ?_, fun e => ?_⟩
  · have ea : base = a := by simpa using e
    refine callM_wf_post (records13 h1 (by omega) fun v2 rl2 S2 f2 s2 r2 wf2 => ?_)
    have hw2 : SlF svF 1 S2 B' w rl := hw.keep fun y k hk => by rw [f2.2 y (by have := wf _ _ hk; have := f1.1; omega), f1.2 y (wf _ _ hk)]
    have hb2 := (hb.keep wf f1.2).keep wf1 f2.2
    rw [e]
    refine lists26 s2 r2 hw2 hb2 (by omega) ⟨.bool (rs == l), rfl, hq _ _ (f1.trans f2) ?_ ?_⟩
    · simp [Kp, FT.get_set, t17, t8, t9]
    · have : decide (base = a ∧ rs = l) = (rs == l) := by
        rw [Bool.eq_iff_iff]; simp [ea]
      simp [FT.get_set, this]
  · rw [e]
    refine ⟨.bool false, rfl, hq _ _ f1 ?_ ?_⟩
    · simp [Kp, FT.get_set, t17, t8, t9]
    · have : ¬ (base = a ∧ rs = l) := by rintro ⟨rfl, _⟩; simp at e
      simp [FT.get_set, this]
theorem is6' {S : MS} {T : FT} {j d half end' : Nat} {base tail a : List UInt8} {rs l : List (List UInt8)} {dead : Bool} {v w : Value} {B' : Nat} {rl : List Sv} (h : IsJ S j d 0 half end' base rs tail dead) (hl : liveN base rs ≤ 400000) (hv : RB S v a) (hw : SlF svF 1 S B' w rl) (hb : RBs S rl l) (t17 : T.get 17 = .pointer (some ⟨j, 0, none⟩)) (t12 : T.get 12 = v) (t13 : T.get 13 = w) {Q : FT → MS → Prop} (hq : ∀ T' S', Old S S' → Kp [0, 1, 5, 7, 8, 9, 10, 12, 13, 14, 17, 18] T T' → T'.get 19 = .bool (decide (base = a ∧ rs = l)) → Q T' S') :
    S.WF → mOps Try.prog O 162 (ro 6 36).toList (ro 6 36).toList [] T S Q := by
  intro wf
  have hl2 := hl
  unfold liveN at hl2
  have hwl := wsum_len rs
  rw [reg6_36, t17, t12, t13]
  refine callM_wf_post (base25 h (by omega) fun v1 S1 f1 s1 wf1 => ?_)
  have h1 := h.old wf f1
  refine bytes24' (RB.own s1) (hv.keep wf f1.2) ⟨(base == a), rfl, fun e => ?_, fun e => ?_⟩
  · have ea : base = a := by simpa using e
    refine callM_wf_post (records13 h1 (by omega) fun v2 rl2 S2 f2 s2 r2 wf2 => ?_)
    have hw2 : SlF svF 1 S2 B' w rl := hw.keep fun y k hk => by rw [f2.2 y (by have := wf _ _ hk; have := f1.1; omega), f1.2 y (wf _ _ hk)]
    have hb2 := (hb.keep wf f1.2).keep wf1 f2.2
    rw [e]
    refine lists26 s2 r2 hw2 hb2 (by omega) ⟨.bool (rs == l), rfl, hq _ _ (f1.trans f2) ?_ ?_⟩
    · simp [Kp, FT.get_set, t17, t12, t13]
    · have : decide (base = a ∧ rs = l) = (rs == l) := by
        rw [Bool.eq_iff_iff]; simp [ea]
      simp [FT.get_set, this]
  · rw [e]
    refine ⟨.bool false, rfl, hq _ _ f1 ?_ ?_⟩
    · simp [Kp, FT.get_set, t17, t12, t13]
    · have : ¬ (base = a ∧ rs = l) := by rintro ⟨rfl, _⟩; simp at e
      simp [FT.get_set, this]

/-- it is as it was, ahead of the last write; or as it is to be -/
theorem fine6 {S : MS} {T : FT} {d : Nat} {D : DK} {n : Nat} {was is : Bool} (h : IsD S d D) (hf : is = true ∨ (was = true ∧ n ≠ D.ws.length)) (t5 : T.get 5 = .pointer (some ⟨d, 0, none⟩)) (t14 : T.get 14 = .int .i64 n) (t18 : T.get 18 = .bool was) (t19 : T.get 19 = .bool is) {Q : FT → MS → Prop} (hq : ∀ T', Kp [0, 1, 5, 7, 8, 9, 10, 12, 13, 14, 17, 18] T T' → T'.get 159 = .bool false → Q T' S) : mOps2 Try.prog O 162 (ro 6 37).toList (ro 6 37).toList 0 [] [] T S Q := by
  rw [reg6_37, t5, t14, t18, t19]
  cases is with
  | true =>
    refine ⟨.bool false, by rw [aunary_not]; rfl, false, rfl, ff, fun _ => ⟨.bool false, rfl, hq _ ?_ ?_⟩⟩
    · simp [Kp, FT.get_set, t5, t14, t18, t19]
    · simp [FT.get_set]
  | false =>
    rcases hf with hf | ⟨rfl, hne⟩
    · cases hf
    refine ⟨.bool true, by rw [aunary_not]; rfl, true, rfl, fun _ => ⟨.bool false, by rw [aunary_not]; rfl, false, rfl, ff, fun _ => writesD h ⟨.bool false, ?_, .bool false, rfl, .bool false, rfl, hq _ ?_ ?_⟩⟩, tf⟩
    · rw [abin_eql]
      have : ((n : Int) == (D.ws.length : Int)) = false := by simp; omega
      rw [this]
    · simp [Kp, FT.get_set, t5, t14, t18, t19]
    · simp [FT.get_set]
end Go.Proofs.Ytmfmbadfgnhonaa

