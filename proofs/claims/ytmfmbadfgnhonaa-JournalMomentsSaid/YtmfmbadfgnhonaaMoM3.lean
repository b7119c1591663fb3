/-
  The walk through the journal's code: what its functions do to memory, part MoM3. Nothing is asked.
-/
import Derived.Test.YtmfmbadfgnhonaaMoM2
set_option linter.all false
namespace Go.Proofs.Ytmfmbadfgnhonaa
open Go Go.Ag
set_option linter.unusedVariables false
set_option maxRecDepth 100000

/-- behind a call: what is there, what was there, and each moment between -/
def Mid (S0 : MS) (av : Value) (l : List (List UInt8)) (every : Int) (d i wb : Nat) (bv lv : Value) (base : List UInt8) (rs : List (List UInt8)) (t0 t11 : Value) (fr : Nat) (T : FT) (S : MS) : Prop :=
  ∃ D c0 W2 j rv half nbv nlv nb nrs len, PJ S d D c0 W2 j rv half nb nrs ∧ Runs D ∧ D.made.length = 80 ∧ D.ws.length ≤ wb + 300 ∧ W2.length = fr + len ∧ LW S d D j rv bv lv base rs ∧ LW S d D j rv nbv nlv nb nrs ∧ (∀ y, y < S0.n → Fr S d D j rv y ∧ S.m y = S0.m y) ∧ liveN nb nrs ≤ 108 * (i + 2) ∧ nrs.length ≤ i + 1 ∧
    (∀ k, k ≤ len → ∃ half b' rs', Says 80 (appC c0 (W2.take (fr + k))) half (liveN b' rs') b' rs' ∧ liveN b' rs' ≤ 2560 ∧ ((b' = nb ∧ rs' = nrs) ∨ (b' = base ∧ rs' = rs ∧ k ≠ len))) ∧
    T.get 0 = t0 ∧ T.get 1 = .int .u8 every ∧ T.get 5 = .pointer (some ⟨d, 0, none⟩) ∧ T.get 6 = .int .i64 0 ∧ T.get 7 = .pointer (some ⟨j, 0, none⟩) ∧ T.get 8 = bv ∧ T.get 9 = lv ∧ T.get 10 = .int .i64 i ∧ T.get 11 = t11 ∧ T.get 12 = nbv ∧ T.get 13 = nlv

theorem take_fr (W V : List (Nat × List UInt8)) (k : Nat) : (W ++ V).take (W.length + k) = W ++ V.take k := by
  rw [List.take_append, List.take_of_length_le (by omega), Nat.add_sub_cancel_left]

theorem step6 {S0 S : MS} {av : Value} {l : List (List UInt8)} {every : Int} {d i : Nat} {D : DK} {c0 : Nat → List UInt8} {W : List (Nat × List UInt8)} {j : Nat} {rv bv lv v2 : Value} {half : Nat} {base b : List UInt8} {rs : List (List UInt8)} {t : Bool} {T : FT} (wf0 : S0.WF) (ha : Arg2 S0 av l) (hi : i ≤ 12) (hbi : l[i]? = some b) (hb : b.length ≤ 100)
    (hp : PJ S d D c0 W j rv half base rs) (hr : Runs D) (hm : D.made.length = 80) (hws : D.ws.length ≤ 100000) (hLW : LW S d D j rv bv lv base rs) (hLW2 : LW S d D j rv bv v2 base (rs ++ [b])) (hBF : ∀ y, y < S0.n → Fr S d D j rv y ∧ S.m y = S0.m y) (hlive : liveN base rs ≤ 108 * (i + 1)) (hrl : rs.length ≤ i)
    (t0 : T.get 0 = av) (t1 : T.get 1 = .int .u8 every) (t5 : T.get 5 = .pointer (some ⟨d, 0, none⟩)) (t7 : T.get 7 = .pointer (some ⟨j, 0, none⟩)) (t8 : T.get 8 = bv) (t9 : T.get 9 = lv) (t10 : T.get 10 = .int .i64 i) (t12 : T.get 12 = bv) (t13 : T.get 13 = v2) (t83 : T.get 83 = .bool t) :
    MWp Try.prog O 162 (.cond (.tmp 83) (.seq (.region 21 (ro 6 21) false) (.region 22 (ro 6 22) false)) (.region 23 (ro 6 23) false)) T S fun x T' S' => x = .normal ∧ Mid S0 av l every d i D.ws.length bv lv base rs av (T.get 11) W.length T' S' := by
  obtain ⟨p, x, q1, q2, q3, q4⟩ := ha.at wf0 (fun y hy => (hBF y hy).2) hbi
  have hlv := liveN_snoc base rs b
  have hlens := hp.hw.lens
  rw [hm] at hlens
  have hsays := hp.says
  rw [hm] at hsays
  have hfr : ∀ y, On x y → Fr S d D j rv y := fun y hy => (hBF y (q4 y hy)).1
  refine m_cond (t := t) t83 (fun _ => ?_) (fun _ => ?_)
  · refine m_seq (m_reg ?_)
    rw [reg6_21]
    simp (decide := true) only [FT.get_set, FT.setL, faS_ptr, nilS_ptr, nilS_func, nilS_yield, pickS_bool, ldS_ptr, list_cells, list_ro, partS_none, lenSl_of, lenStr_of, cvInt_of, aminmax_max, aminmax_min, abin_add, abin_sub, abin_mul, abin_eql, abin_neq, abin_lss, abin_leq, abin_gtr, abin_geq, aunary_not, aextract, Option.some.injEq, Prod.mk.injEq, Value.bool.injEq, exists_eq_left', exists_and_left, and_assoc, decide_eq_true_eq, decide_eq_false_iff_not, if_true, if_false, Nat.zero_add, Nat.add_zero, Option.bind_some, true_and, and_true, forall_const, true_implies, Bool.not_eq_true, Bool.false_eq_true, false_implies, ite_self, Nat.mul_one, t0, t10, q1, q2]
    refine m_reg ?_
    rw [reg6_22]
    simp (decide := true) only [FT.get_set, FT.setL, faS_ptr, nilS_ptr, nilS_func, nilS_yield, pickS_bool, ldS_ptr, list_cells, list_ro, partS_none, lenSl_of, lenStr_of, cvInt_of, aminmax_max, aminmax_min, abin_add, abin_sub, abin_mul, abin_eql, abin_neq, abin_lss, abin_leq, abin_gtr, abin_geq, aunary_not, aextract, Option.some.injEq, Prod.mk.injEq, Value.bool.injEq, exists_eq_left', exists_and_left, and_assoc, decide_eq_true_eq, decide_eq_false_iff_not, if_true, if_false, Nat.zero_add, Nat.add_zero, Option.bind_some, true_and, and_true, forall_const, true_implies, Bool.not_eq_true, Bool.false_eq_true, false_implies, ite_self, Nat.mul_one, t0, t7, t10, q1, q2]
    refine hp.snap hr q3 hfr (by omega) (by omega) fun S4 D4 rv4 g4 hp4 hr4 hw4 hm4 => ?_
    have hl0 : liveN b [] = b.length + 8 := by unfold liveN; simp [wsum]
    refine ⟨D4, c0, W ++ snapW D.made.length (1 - half) b, j, rv4, _, x, .slice none 0 0, b, [], (snapW D.made.length (1 - half) b).length, hp4, hr4, hm4.trans hm, hw4, by rw [List.length_append], hLW.keep g4.fr, ⟨q3.keepOn fun y hy => (g4.fr y (hfr y hy)).1, fun y hy => (g4.fr y (hfr y hy)).2, [], .non, ⟨rfl, fun i x r hx => by cases hx⟩, fun y hy => absurd (fun l c e => by cases e) hy, fun x hx => by cases hx⟩, fun y hy => ?_, by omega, by simp, fun k hk => ?_, by simp [FT.get_set, t0], by simp [FT.get_set, t1], by simp [FT.get_set, t5], by simp [FT.get_set], by simp [FT.get_set, t7], by simp [FT.get_set, t8], by simp [FT.get_set, t9], by simp [FT.get_set, t10], by simp [FT.get_set], by simp [FT.get_set], by simp [FT.get_set]⟩
    · obtain ⟨g1, g2⟩ := g4.fr y (hBF y hy).1
      exact ⟨g2, g1.trans (hBF y hy).2⟩
    · rw [take_fr]
      rcases Nat.lt_or_eq_of_le hk with hlt | rfl
      · refine ⟨half, base, rs, ?_, by omega, .inr ⟨rfl, rfl, Nat.ne_of_lt hlt⟩⟩
        rw [appC_app]
        rw [hm] at hlt ⊢
        exact snap_moment hsays hlens (by omega) b (by rw [laid_len]; omega) hlt
      · refine ⟨1 - half, b, [], ?_, by omega, .inl ⟨rfl, rfl⟩⟩
        rw [List.take_length]
        have := hp4.says
        rwa [hm4.trans hm] at this
  · refine m_reg ?_
    rw [reg6_23]
    simp (decide := true) only [FT.get_set, FT.setL, faS_ptr, nilS_ptr, nilS_func, nilS_yield, pickS_bool, ldS_ptr, list_cells, list_ro, partS_none, lenSl_of, lenStr_of, cvInt_of, aminmax_max, aminmax_min, abin_add, abin_sub, abin_mul, abin_eql, abin_neq, abin_lss, abin_leq, abin_gtr, abin_geq, aunary_not, aextract, Option.some.injEq, Prod.mk.injEq, Value.bool.injEq, exists_eq_left', exists_and_left, and_assoc, decide_eq_true_eq, decide_eq_false_iff_not, if_true, if_false, Nat.zero_add, Nat.add_zero, Option.bind_some, true_and, and_true, forall_const, true_implies, Bool.not_eq_true, Bool.false_eq_true, false_implies, ite_self, Nat.mul_one, t0, t7, t10, q1, q2]
    refine hp.append hr q3 hfr (by omega) (by omega) (fun hf => absurd hf (by omega)) fun _ S4 D4 rv4 g4 hp4 hr4 hw4 hm4 => ?_
    refine ⟨D4, c0, W ++ appW D.made.length half base rs b, j, rv4, _, bv, v2, base, rs ++ [b], (appW D.made.length half base rs b).length, hp4, hr4, hm4.trans hm, hw4, by rw [List.length_append], hLW.keep g4.fr, hLW2.keep g4.fr, fun y hy => ?_, by omega, by simp; omega, fun k hk => ?_, by simp [FT.get_set, t0], by simp [FT.get_set, t1], by simp [FT.get_set, t5], by simp [FT.get_set], by simp [FT.get_set, t7], by simp [FT.get_set, t8], by simp [FT.get_set, t9], by simp [FT.get_set, t10], by simp [FT.get_set], by simp [FT.get_set, t12], by simp [FT.get_set, t13]⟩
    · obtain ⟨g1, g2⟩ := g4.fr y (hBF y hy).1
      exact ⟨g2, g1.trans (hBF y hy).2⟩
    · rw [take_fr]
      rcases Nat.lt_or_eq_of_le hk with hlt | rfl
      · refine ⟨half, base, rs, ?_, by omega, .inr ⟨rfl, rfl, Nat.ne_of_lt hlt⟩⟩
        rw [appC_app]
        rw [hm] at hlt ⊢
        exact app_moment hsays hlens (by omega) b hlt
      · refine ⟨half, base, rs ++ [b], ?_, by omega, .inl ⟨rfl, rfl⟩⟩
        rw [List.take_length]
        have := hp4.says
        rwa [hm4.trans hm] at this
end Go.Proofs.Ytmfmbadfgnhonaa

