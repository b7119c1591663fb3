/-
  The walk through the journal's code: what its functions do to memory, part MoM4. Nothing is asked.
-/
import Derived.Test.YtmfmbadfgnhonaaMoM3
set_option linter.all false
namespace Go.Proofs.Ytmfmbadfgnhonaa
open Go Go.Ag
set_option linter.unusedVariables false
set_option maxRecDepth 100000

theorem same_own {S : MS} {b off n c : Nat} {l : List Value} {es : Nat} (h : S.m b = some (.cells l es)) : sameS S (.slice (some ⟨b, off, none⟩) n c) = some (.slice (some ⟨b, off, none⟩) n c) := by
  show (match S.m b with | some (.cells _ _) => _ | _ => none) = _
  rw [h]

/-- ahead of each call -/
def MO (S0 : MS) (av : Value) (l : List (List UInt8)) (every : Int) (d : Nat) (m : Nat) (T : FT) (S : MS) : Prop := ∃ D c0 W j rv half bv lv base rs i, i + m = l.length ∧ PJ S d D c0 W j rv half base rs ∧ Runs D ∧ D.made.length = 80 ∧ D.ws.length ≤ 400 + 300 * i ∧ LW S d D j rv bv lv base rs ∧ (∀ y, y < S0.n → Fr S d D j rv y ∧ S.m y = S0.m y) ∧ liveN base rs ≤ 108 * (i + 1) ∧ rs.length ≤ i ∧
  T.get 0 = av ∧ T.get 1 = .int .u8 every ∧ T.get 5 = .pointer (some ⟨d, 0, none⟩) ∧ T.get 7 = .pointer (some ⟨j, 0, none⟩) ∧ T.get 8 = bv ∧ T.get 9 = lv ∧ T.get 10 = .int .i64 i

theorem round6 {S0 : MS} {av : Value} {l : List (List UInt8)} {every : Int} {d m : Nat} {T : FT} {S : MS} (wf0 : S0.WF) (ha : Arg2 S0 av l) (hl : l.length ≤ 12) (h : MO S0 av l every d m T S) :
    MWp Try.prog O 162 (.seq (.seq (.region 14 (ro 6 14) false) (.cond (.tmp 54) .skip (.exit 0))) (.seq blk6_1 (.region 15 (ro 6 15) false))) T S fun x T' S' => (x = .normal ∧ ∃ m', m' < m ∧ MO S0 av l every d m' T' S') ∨ x = .exit 0 ∨ (x = .ret ∧ T'.get 4 = .bool true) := by
  obtain ⟨D, c0, W, j, rv, half, bv, lv, base, rs, i, hi, hp, hr, hm, hws, hLW, hBF, hlive, hrl, t0, t1, t5, t7, t8, t9, t10⟩ := h
  refine m_wf fun wf => m_seq (m_seq (m_reg ?_))
  rw [reg6_14]
  simp (decide := true) only [FT.get_set, FT.setL, faS_ptr, nilS_ptr, nilS_func, nilS_yield, pickS_bool, ldS_ptr, list_cells, list_ro, partS_none, lenSl_of, lenStr_of, cvInt_of, aminmax_max, aminmax_min, abin_add, abin_sub, abin_mul, abin_eql, abin_neq, abin_lss, abin_leq, abin_gtr, abin_geq, aunary_not, aextract, Option.some.injEq, Prod.mk.injEq, Value.bool.injEq, exists_eq_left', exists_and_left, and_assoc, decide_eq_true_eq, decide_eq_false_iff_not, if_true, if_false, Nat.zero_add, Nat.add_zero, Option.bind_some, true_and, and_true, forall_const, true_implies, Bool.not_eq_true, Bool.false_eq_true, false_implies, ite_self, Nat.mul_one, t0, t10, ha.len]
  refine m_cond (t := decide ((i : Int) < l.length)) (by simp [evalT, FT.get_set, FT.setL, faS_ptr, nilS_ptr, nilS_func, nilS_yield, pickS_bool, ldS_ptr, list_cells, list_ro, partS_none, lenSl_of, lenStr_of, cvInt_of, aminmax_max, aminmax_min, abin_add, abin_sub, abin_mul, abin_eql, abin_neq, abin_lss, abin_leq, abin_gtr, abin_geq, aunary_not, aextract]) (fun hlt => m_skip ?_) (fun hlt => m_exit ?_)
  · have hlt : i < l.length := by have := of_decide_eq_true hlt; omega
    obtain ⟨b, hbi⟩ : ∃ b, l[i]? = some b := ⟨_, List.getElem?_eq_getElem hlt⟩
    obtain ⟨p, x, q1, q2, q3, q4⟩ := ha.at wf0 (fun y hy => (hBF y hy).2) hbi
    simp only
    unfold blk6_1
    refine m_seq (m_block (m_seq (m_seq (m_reg ?_))))
    rw [reg6_16]
    simp (decide := true) only [FT.get_set, FT.setL, faS_ptr, nilS_ptr, nilS_func, nilS_yield, pickS_bool, ldS_ptr, list_cells, list_ro, partS_none, lenSl_of, lenStr_of, cvInt_of, aminmax_max, aminmax_min, abin_add, abin_sub, abin_mul, abin_eql, abin_neq, abin_lss, abin_leq, abin_gtr, abin_geq, aunary_not, aextract, Option.some.injEq, Prod.mk.injEq, Value.bool.injEq, exists_eq_left', exists_and_left, and_assoc, decide_eq_true_eq, decide_eq_false_iff_not, if_true, if_false, Nat.zero_add, Nat.add_zero, Option.bind_some, true_and, and_true, forall_const, true_implies, Bool.not_eq_true, Bool.false_eq_true, false_implies, ite_self, Nat.mul_one, t0, t10, q1, q2, q3.len]
    refine m_cond (t := decide ((b.length : Int) > 100)) (by simp [evalT, FT.get_set, FT.setL, faS_ptr, nilS_ptr, nilS_func, nilS_yield, pickS_bool, ldS_ptr, list_cells, list_ro, partS_none, lenSl_of, lenStr_of, cvInt_of, aminmax_max, aminmax_min, abin_add, abin_sub, abin_mul, abin_eql, abin_neq, abin_lss, abin_leq, abin_gtr, abin_geq, aunary_not, aextract]) (fun hbig => ?_) (fun hsm => m_skip ?_)
    · refine m_seq (m_reg ?_)
      rw [reg6_17]
      refine m_ret ?_
      simp [FT.get_set]
    have hb : b.length ≤ 100 := by have := of_decide_eq_false hsm; omega
    simp only
    refine m_seq (m_reg ?_)
    rw [reg6_18]
    simp (decide := true) only [FT.get_set, FT.setL, faS_ptr, nilS_ptr, nilS_func, nilS_yield, pickS_bool, ldS_ptr, list_cells, list_ro, partS_none, lenSl_of, lenStr_of, cvInt_of, aminmax_max, aminmax_min, abin_add, abin_sub, abin_mul, abin_eql, abin_neq, abin_lss, abin_leq, abin_gtr, abin_geq, aunary_not, aextract, Option.some.injEq, Prod.mk.injEq, Value.bool.injEq, exists_eq_left', exists_and_left, and_assoc, decide_eq_true_eq, decide_eq_false_iff_not, if_true, if_false, Nat.zero_add, Nat.add_zero, Option.bind_some, true_and, and_true, forall_const, true_implies, Bool.not_eq_true, Bool.false_eq_true, false_implies, ite_self, Nat.mul_one, t5]
    refine writesD hp.is ?_
    -- the longer list
    refine m_seq (m_draw ?_)
    rw [reg6_19]
    obtain ⟨rl, c1, c2, c3, c4⟩ := hLW.ex
    have hll := c1.lenSl
    have hrll : rl.length = rs.length := c2.1
    obtain ⟨v6, u1, u2⟩ := SlF.cut c1 (by omega)
    obtain ⟨s, rfl⟩ := q3.sv
    have hbs : bsS S 1 1 [.slice none 0 0] [(0, s.v)] = some (.slice (some ⟨S.n, 0, none⟩) 1 1, S.fresh [s.v] 1) := bsS_one S 1 _ s.v rfl rfl
    have wf2 := wf_fresh' wf [s.v] 1
    have f2 := old_fresh S [s.v] 1
    have hnew : firstCellsM (S.fresh [s.v] 1) 1 1 (.slice (some ⟨S.n, 0, none⟩) 1 1) = some [s.v] :=
      (first_of (sz := 1) (n := 1) (len := 1) (cap := 1) (off := 0) (list_of (fresh_at S [s.v] 1)) (Nat.le_refl _) (by decide) (by simp)).trans rfl
    have u3 : (v6 = .slice none 0 0 ∧ rl = []) ∨ ∃ b junk, v6 = .slice (some ⟨b, 0, none⟩) rl.length rl.length ∧ (S.fresh [s.v] 1).m b = some (.cells ((rl ++ junk).flatMap svF) 1) := by
      rcases u2 with h | ⟨b, junk, h1, h2⟩
      · exact .inl h
      · exact .inr ⟨b, junk, h1, by rw [f2.2 b (wf _ _ h2)]; exact h2⟩
    obtain ⟨v2, S3, a1, a2, f3⟩ := SlF.grow (s := s) (x := .slice (some ⟨S.n, 0, none⟩) 1 1) wf2 u3 (by omega) rfl hnew
    simp (decide := true) only [FT.get_set, FT.setL, faS_ptr, nilS_ptr, nilS_func, nilS_yield, pickS_bool, ldS_ptr, list_cells, list_ro, partS_none, lenSl_of, lenStr_of, cvInt_of, aminmax_max, aminmax_min, abin_add, abin_sub, abin_mul, abin_eql, abin_neq, abin_lss, abin_leq, abin_gtr, abin_geq, aunary_not, aextract, Option.some.injEq, Prod.mk.injEq, Value.bool.injEq, exists_eq_left', exists_and_left, and_assoc, decide_eq_true_eq, decide_eq_false_iff_not, if_true, if_false, Nat.zero_add, Nat.add_zero, Option.bind_some, true_and, and_true, forall_const, true_implies, Bool.not_eq_true, Bool.false_eq_true, false_implies, ite_self, Nat.mul_one, t0, t8, t9, t10, hll, u1, q1, q2, hbs, a1]
    have f13 := f2.trans f3
    have hp3 := hp.old wf f13
    have hLW3 := hLW.old f13
    have hBF3 : ∀ y, y < S0.n → Fr S3 d D j rv y ∧ S3.m y = S0.m y := fun y hy => ⟨(hBF y hy).1.old f13, (f13.2 y (hBF y hy).1.1.1).trans (hBF y hy).2⟩
    refine m_wf fun wf3 => ?_
    have hLW3' : LW S3 d D j rv bv v2 base (rs ++ [b]) := by
      refine ⟨hLW3.b, hLW3.bo, rl ++ [s], SlF.weaken a2 (Nat.zero_le _), ⟨by rw [List.length_append, List.length_append, c2.1]; rfl, fun k x r hx hr' => ?_⟩, fun y hy => ?_, fun x hx y hy => ?_⟩
      · by_cases hk : k < rl.length
        · rw [List.getElem?_append_left hk] at hx
          rw [List.getElem?_append_left (by rw [← c2.1]; exact hk)] at hr'
          exact (c2.2 k x r hx hr').keep wf f13.2
        · rw [List.getElem?_append_right (by omega)] at hx
          rw [List.getElem?_append_right (by rw [← c2.1]; omega), ← c2.1] at hr'
          obtain ⟨e1, _⟩ := List.getElem?_eq_some_iff.1 hx
          have : k - rl.length = 0 := by simp at e1; omega
          rw [this] at hx hr'
          cases hx; cases hr'
          exact q3.keep wf f13.2
      · have h1 : S.n ≤ y := by
          by_cases hlt : y < S.n + 1
          · exact absurd (SlF.av a2 hlt) hy
          · omega
        exact Fr.new hp.is wf hp.jj h1 (Nat.lt_of_not_le fun e => hy (SlF.avN a2 wf3 e))
      · rcases List.mem_append.1 hx with hx | hx
        · exact (c4 x hx y hy).old f13
        · have : x = s := by simpa using hx
          subst this
          exact ((hBF y (q4 y hy)).1).old f13
    refine m_seq (m_seq (m_reg ?_))
    rw [reg6_20]
    have r1 : abin Try.prog .rem 5 (.tmp 78) (.const (.int .u8 5)) (.int .u8 every) (.int .u8 5) = some (.int .u8 (every.tmod 5)) := abin_rem _ _ _ _ _ _ _ (by decide)
    have r2 : abin Try.prog .rem 3 (.tmp 81) (.const (.int .i64 5)) (.int .i64 (i : Int)) (.int .i64 5) = some (.int .i64 ((i : Int).tmod 5)) := abin_rem _ _ _ _ _ _ _ (by decide)
    simp (decide := true) only [FT.get_set, FT.setL, faS_ptr, nilS_ptr, nilS_func, nilS_yield, pickS_bool, ldS_ptr, list_cells, list_ro, partS_none, lenSl_of, lenStr_of, cvInt_of, aminmax_max, aminmax_min, abin_add, abin_sub, abin_mul, abin_eql, abin_neq, abin_lss, abin_leq, abin_gtr, abin_geq, aunary_not, aextract, Option.some.injEq, Prod.mk.injEq, Value.bool.injEq, exists_eq_left', exists_and_left, and_assoc, decide_eq_true_eq, decide_eq_false_iff_not, if_true, if_false, Nat.zero_add, Nat.add_zero, Option.bind_some, true_and, and_true, forall_const, true_implies, Bool.not_eq_true, Bool.false_eq_true, false_implies, ite_self, Nat.mul_one, t1, t10, r1, r2]
    refine (step6 (i := i) (b := b) (every := every) wf0 ha (by omega) hbi hb hp3 hr hm (by omega) hLW3 hLW3' hBF3 hlive hrl (by simp [FT.get_set, t0]) (by simp [FT.get_set, t1]) (by simp [FT.get_set, t5]) (by simp [FT.get_set, t7]) (by simp [FT.get_set, t8]) (by simp [FT.get_set, t9]) (by simp [FT.get_set, t10]) (by simp [FT.get_set]) (by simp [FT.get_set]) (by simp [FT.get_set]; rfl)).mono ?_
    rintro y T4 S4 ⟨rfl, D4, e0, W2, j4, rv4, half4, nbv, nlv, nb, nrs, len, p4, r4, m4, w4, hW2, L4, L4', B4, live4, nr4, mom4, s0, s1, s5, s6, s7, s8, s9, s10, s11, s12, s13⟩
    simp only
    refine m_seq (m_seq (m_reg ?_))
    rw [reg6_24]
    simp (decide := true) only [FT.get_set, FT.setL, faS_ptr, nilS_ptr, nilS_func, nilS_yield, pickS_bool, ldS_ptr, list_cells, list_ro, partS_none, lenSl_of, lenStr_of, cvInt_of, aminmax_max, aminmax_min, abin_add, abin_sub, abin_mul, abin_eql, abin_neq, abin_lss, abin_leq, abin_gtr, abin_geq, aunary_not, aextract, Option.some.injEq, Prod.mk.injEq, Value.bool.injEq, exists_eq_left', exists_and_left, and_assoc, decide_eq_true_eq, decide_eq_false_iff_not, if_true, if_false, Nat.zero_add, Nat.add_zero, Option.bind_some, true_and, and_true, forall_const, true_implies, Bool.not_eq_true, Bool.false_eq_true, false_implies, ite_self, Nat.mul_one, s6, bne_self_eq_false]
    refine m_cond (t := false) (by simp [evalT, FT.get_set, FT.setL, faS_ptr, nilS_ptr, nilS_func, nilS_yield, pickS_bool, ldS_ptr, list_cells, list_ro, partS_none, lenSl_of, lenStr_of, cvInt_of, aminmax_max, aminmax_min, abin_add, abin_sub, abin_mul, abin_eql, abin_neq, abin_lss, abin_leq, abin_gtr, abin_geq, aunary_not, aextract]) ff (fun _ => m_skip ?_)
    simp only
    refine m_seq (m_seq (m_reg ?_))
    rw [reg6_26]
    obtain ⟨rlo, o1, o2, _, _⟩ := L4.ex
    obtain ⟨rln, n1, n2, _, _⟩ := L4'.ex
    have s11' : T4.get 11 = .int .i64 (W.length : Nat) := by
      rw [s11]
      simp [FT.get_set, hp.hw.len]
    refine m_wf fun wf4 => (inner6 (fr := W.length) (len := len) p4.is p4.hw (by omega) m4 hW2 mom4 L4.b o1 o2 L4'.b n1 n2 (by simp [FT.get_set, s5]) (by simp [FT.get_set, s8]) (by simp [FT.get_set, s9]) (by simp [FT.get_set, s12]) (by simp [FT.get_set, s13]) (by simp [FT.get_set, s11'])).mono ?_
    rintro y T5 S5 ⟨rfl, f5, k5⟩
    simp only
    refine m_reg ?_
    rw [reg6_39]
    have g0 := (k5 0 (by decide)).trans (by simp [FT.get_set] : _ = T4.get 0)
    have g1 := (k5 1 (by decide)).trans (by simp [FT.get_set] : _ = T4.get 1)
    have g5 := (k5 5 (by decide)).trans (by simp [FT.get_set] : _ = T4.get 5)
    have g7 := (k5 7 (by decide)).trans (by simp [FT.get_set] : _ = T4.get 7)
    have g10 := (k5 10 (by decide)).trans (by simp [FT.get_set] : _ = T4.get 10)
    have g12 := (k5 12 (by decide)).trans (by simp [FT.get_set] : _ = T4.get 12)
    have g13 := (k5 13 (by decide)).trans (by simp [FT.get_set] : _ = T4.get 13)
    refine m_reg ?_
    rw [reg6_15]
    have hwi : IntKind.i64.wrap ((i : Int) + 1) = ((i + 1 : Nat) : Int) := by rw [wrap_i64 (by omega) (by omega)]; rfl
    simp (decide := true) only [FT.get_set, FT.setL, faS_ptr, nilS_ptr, nilS_func, nilS_yield, pickS_bool, ldS_ptr, list_cells, list_ro, partS_none, lenSl_of, lenStr_of, cvInt_of, aminmax_max, aminmax_min, abin_add, abin_sub, abin_mul, abin_eql, abin_neq, abin_lss, abin_leq, abin_gtr, abin_geq, aunary_not, aextract, Option.some.injEq, Prod.mk.injEq, Value.bool.injEq, exists_eq_left', exists_and_left, and_assoc, decide_eq_true_eq, decide_eq_false_iff_not, if_true, if_false, Nat.zero_add, Nat.add_zero, Option.bind_some, true_and, and_true, forall_const, true_implies, Bool.not_eq_true, Bool.false_eq_true, false_implies, ite_self, Nat.mul_one, g10, s10, hwi]
    refine .inl ⟨m - 1, by omega, D4, e0, W2, j4, rv4, half4, nbv, nlv, nb, nrs, i + 1, by omega, p4.old wf4 f5, r4, m4, by omega, L4'.old f5, fun y hy => ⟨(B4 y hy).1.old f5, (f5.2 y (B4 y hy).1.1.1).trans (B4 y hy).2⟩, by omega, nr4, by simp [FT.get_set, g0, s0], by simp [FT.get_set, g1, s1], by simp [FT.get_set, g5, s5], by simp [FT.get_set, g7, s7], by simp [FT.get_set, g12, s12], by simp [FT.get_set, g13, s13], by simp [FT.get_set]⟩
  · exact .inr (.inl rfl)
end Go.Proofs.Ytmfmbadfgnhonaa

