/-
  The walk through the journal's code: what its functions do to memory, part PyP7. Nothing is asked.
-/
import Derived.Test.YtmfmbadfgnhonaaPyP6
set_option linter.all false
namespace Go.Proofs.Ytmfmbadfgnhonaa
open Go Go.Ag
set_option linter.unusedVariables false
set_option maxRecDepth 100000

section
variable {S0 S : MS} {N wb d q j i : Nat} {D : DK} {c0 : Nat → List UInt8} {W : List (Nat × List UInt8)} {rv bv lv x v15 av : Value} {half : Nat} {base : List UInt8} {rs : List (List UInt8)} {s : Stp} {dead : Bool} {T : FT}

/-- where it was cut: restarted, opened anew, as it was -/
theorem tailB (hp : PX (fun _ => False) S d D c0 W j rv half base rs dead) (hL : LW S0.n S d D j rv bv lv base rs) (hbf : ∀ y, y < S0.n → Fr S d D j rv y ∧ S.m y = S0.m y) (hq : S.m q = some (.cells (stpL s x) 0)) (hN : D.made.length = N) (hws : D.ws.length ≤ wb) (hrs : rs.length ≤ i) (hN2 : N ≤ 200)
    (t2 : T.get 2 = av) (t7 : T.get 7 = .pointer (some ⟨d, 0, none⟩)) (t9 : T.get 9 = .pointer (some ⟨j, 0, none⟩)) (t10 : T.get 10 = .int .i64 ((32 * N : Nat) : Int)) (t11 : T.get 11 = bv) (t12 : T.get 12 = lv) (t14 : T.get 14 = .pointer (some ⟨q, 0, none⟩)) (t19 : T.get 19 = .bool dead) :
    MWp Try.prog O 237 tail4b T S fun y T' S' => y = .normal ∧ PO S0 av N d wb i T' S' ∧ T'.get 13 = T.get 13 := by
  have cond52 : ∀ (Q : FT → MS → Prop), (∀ T', Kp [2, 7, 9, 10, 11, 12, 13, 14, 19] T T' → T'.get 177 = .bool false → Q T' S) → mOps2 Try.prog O 237 (ro 4 52).toList (ro 4 52).toList 0 [] [] T S Q := by
    intro Q hQ
    rw [reg4_52, t9, t19]
    have e1 : abin Try.prog .eql 24 (.tmp 170) (.const (.int .i64 0)) (.int .i64 12) (.int .i64 0) = some (.bool false) := by rw [abin_eql]; rfl
    have e2 : abin Try.prog .eql 24 (.tmp 174) (.const (.int .i64 0)) (.int .i64 12) (.int .i64 0) = some (.bool false) := by rw [abin_eql]; rfl
    cases dead with
    | true =>
      refine ⟨true, rfl, fun _ => append11_dead hp.jj ⟨.bool false, e1, false, rfl, ff, fun _ => snap12_dead hp.jj ⟨.bool false, e2, .bool false, rfl, .bool false, rfl, hQ _ ?_ ?_⟩⟩, tf⟩
      · simp [Kp, FT.get_set, t9, t19]
      · simp [FT.get_set]
    | false =>
      refine ⟨false, rfl, ff, fun _ => ⟨.bool false, rfl, hQ _ ?_ ?_⟩⟩
      · simp [Kp, FT.get_set, t9, t19]
      · simp [FT.get_set]
  refine m_seq (m_seq (m_reg2 (cond52 _ fun T1 k1 h177 => ?_)))
  have a2 := (k1 2 (by decide)).trans t2
  have a7 := (k1 7 (by decide)).trans t7
  have a9 := (k1 9 (by decide)).trans t9
  have a10 := (k1 10 (by decide)).trans t10
  have a11 := (k1 11 (by decide)).trans t11
  have a12 := (k1 12 (by decide)).trans t12
  have a13 := k1 13 (by decide)
  have a14 := (k1 14 (by decide)).trans t14
  have a19 := (k1 19 (by decide)).trans t19
  refine m_cond (t := false) h177 ff (fun _ => m_skip ?_)
  simp only
  have cond54 : ∀ (Q : FT → MS → Prop), (∀ T' t, (dead = true → t = true) → Kp [2, 7, 9, 10, 11, 12, 13, 14, 19] T1 T' → T'.get 183 = .bool t → Q T' S) → mOps Try.prog O 237 (ro 4 54).toList (ro 4 54).toList [] T1 S Q := by
    intro Q hQ
    rw [reg4_54, a14, a19]
    cases dead with
    | true =>
      refine ⟨true, rfl, fun _ => ⟨.bool true, rfl, hQ _ true (fun _ => rfl) ?_ ?_⟩, tf⟩
      · simp [Kp, FT.get_set, a14, a19]
      · simp [FT.get_set]
    | false =>
      refine ⟨false, rfl, ff, fun _ => ⟨_, rfl, .int .i64 s.cut, by rw [ldS_ptr, list_of hq]; rfl, _, abin_eql _ _ _ _ _ _ _, .bool (s.cut == 0), rfl, hQ _ (s.cut == 0) (fun h => by cases h) ?_ ?_⟩⟩
      · simp [Kp, FT.get_set, a14, a19]
      · simp [FT.get_set]
  refine m_seq (m_seq (m_reg (cond54 _ fun T2 t ht k2 h183 => ?_)))
  have b2 := (k2 2 (by decide)).trans a2
  have b7 := (k2 7 (by decide)).trans a7
  have b9 := (k2 9 (by decide)).trans a9
  have b10 := (k2 10 (by decide)).trans a10
  have b11 := (k2 11 (by decide)).trans a11
  have b12 := (k2 12 (by decide)).trans a12
  have b13 := (k2 13 (by decide)).trans a13
  have b19 := (k2 19 (by decide)).trans a19
  refine m_cond (t := t) h183 (fun _ => ?_) (fun h => m_skip ?_)
  · refine m_seq (m_reg ?_)
    rw [reg4_55]
    simp (decide := true) only [FT.get_set, FT.setL, faS_ptr, nilS_ptr, nilS_func, nilS_yield, pickS_bool, ldS_ptr, list_cells, list_ro, partS_none, lenSl_of, lenStr_of, cvInt_of, aminmax_max, aminmax_min, abin_add, abin_sub, abin_mul, abin_eql, abin_neq, abin_lss, abin_leq, abin_gtr, abin_geq, aunary_not, aextract, Option.some.injEq, Prod.mk.injEq, Value.bool.injEq, exists_eq_left', exists_and_left, and_assoc, decide_eq_true_eq, decide_eq_false_iff_not, if_true, if_false, Nat.zero_add, Nat.add_zero, Option.bind_some, true_and, and_true, forall_const, true_implies, Bool.not_eq_true, Bool.false_eq_true, false_implies, ite_self, Nat.mul_one, b7]
    refine callM_wf_post (restartW hp.is hp.hw fun _ S1 hI1 hW1 n1 _ k1 wf1 => ?_)
    have hp1 := hp.flags (D' := restartD D) rfl hI1 hW1 k1
    have kf : ∀ y, Fr S d D j rv y → S1.m y = S.m y ∧ Fr S1 d (restartD D) j rv y := Fr.flags k1
    have hL1 := hL.keep kf
    refine m_seq (m_reg ?_)
    rw [reg4_56]
    simp (decide := true) only [FT.get_set, FT.setL, faS_ptr, nilS_ptr, nilS_func, nilS_yield, pickS_bool, ldS_ptr, list_cells, list_ro, partS_none, lenSl_of, lenStr_of, cvInt_of, aminmax_max, aminmax_min, abin_add, abin_sub, abin_mul, abin_eql, abin_neq, abin_lss, abin_leq, abin_gtr, abin_geq, aunary_not, aextract, Option.some.injEq, Prod.mk.injEq, Value.bool.injEq, exists_eq_left', exists_and_left, and_assoc, decide_eq_true_eq, decide_eq_false_iff_not, if_true, if_false, Nat.zero_add, Nat.add_zero, Option.bind_some, true_and, and_true, forall_const, true_implies, Bool.not_eq_true, Bool.false_eq_true, false_implies, ite_self, Nat.mul_one, b7]
    refine callM_wf_post (openX hp1 (fun y hy => hy.elim) rfl fun j2 rv2 S2 f2 g2 hp2 wf2 => ?_)
    have hL2 := g2.lw hL1
    have hbf2 : ∀ y, y < S0.n → Fr S2 d (restartD D) j2 rv2 y ∧ S2.m y = S0.m y := fun y hy => by
      obtain ⟨h1, h2⟩ := kf y (hbf y hy).1
      obtain ⟨h3, h4⟩ := g2.fr y h2
      exact ⟨h4, h3.trans (h1.trans (hbf y hy).2)⟩
    simp (decide := true) only [FT.get_set, FT.setL, faS_ptr, nilS_ptr, nilS_func, nilS_yield, pickS_bool, ldS_ptr, list_cells, list_ro, partS_none, lenSl_of, lenStr_of, cvInt_of, aminmax_max, aminmax_min, abin_add, abin_sub, abin_mul, abin_eql, abin_neq, abin_lss, abin_leq, abin_gtr, abin_geq, aunary_not, aextract, Option.some.injEq, Prod.mk.injEq, Value.bool.injEq, exists_eq_left', exists_and_left, and_assoc, decide_eq_true_eq, decide_eq_false_iff_not, if_true, if_false, Nat.zero_add, Nat.add_zero, Option.bind_some, true_and, and_true, forall_const, true_implies, Bool.not_eq_true, Bool.false_eq_true, false_implies, ite_self, Nat.mul_one, List.getElem?_cons_zero, List.getElem?_cons_succ]
    refine m_seq (m_seq (m_reg ?_))
    rw [reg4_57]
    obtain ⟨bv', tv', rl', z1, _⟩ := hp2.jj.ex
    have hmr : (restartD D).made.length = N := hN
    have ec : ((((32 * (restartD D).made.length : Nat) : Int)) != ((32 * N : Nat) : Int)) = false := by rw [hmr]; exact bne_self_eq_false _
    simp (decide := true) only [FT.get_set, FT.setL, faS_ptr, nilS_ptr, nilS_func, nilS_yield, pickS_bool, ldS_ptr, list_cells, list_ro, partS_none, lenSl_of, lenStr_of, cvInt_of, aminmax_max, aminmax_min, abin_add, abin_sub, abin_mul, abin_eql, abin_neq, abin_lss, abin_leq, abin_gtr, abin_geq, aunary_not, aextract, Option.some.injEq, Prod.mk.injEq, Value.bool.injEq, exists_eq_left', exists_and_left, and_assoc, decide_eq_true_eq, decide_eq_false_iff_not, if_true, if_false, Nat.zero_add, Nat.add_zero, Option.bind_some, true_and, and_true, forall_const, true_implies, Bool.not_eq_true, Bool.false_eq_true, false_implies, ite_self, Nat.mul_one, bne_self_eq_false, abin_ptr_nil_eql _ _ _ _ _ _ under28, b10]
    refine capacity14 z1 hp2.is (by rw [hmr]; omega) ?_
    simp (decide := true) only [FT.get_set, FT.setL, faS_ptr, nilS_ptr, nilS_func, nilS_yield, pickS_bool, ldS_ptr, list_cells, list_ro, partS_none, lenSl_of, lenStr_of, cvInt_of, aminmax_max, aminmax_min, abin_add, abin_sub, abin_mul, abin_eql, abin_neq, abin_lss, abin_leq, abin_gtr, abin_geq, aunary_not, aextract, Option.some.injEq, Prod.mk.injEq, Value.bool.injEq, exists_eq_left', exists_and_left, and_assoc, decide_eq_true_eq, decide_eq_false_iff_not, if_true, if_false, Nat.zero_add, Nat.add_zero, Option.bind_some, true_and, and_true, forall_const, true_implies, Bool.not_eq_true, Bool.false_eq_true, false_implies, ite_self, Nat.mul_one, ec]
    refine m_cond (t := false) (by simp [evalT, FT.get_set, FT.setL, faS_ptr, nilS_ptr, nilS_func, nilS_yield, pickS_bool, ldS_ptr, list_cells, list_ro, partS_none, lenSl_of, lenStr_of, cvInt_of, aminmax_max, aminmax_min, abin_add, abin_sub, abin_mul, abin_eql, abin_neq, abin_lss, abin_leq, abin_gtr, abin_geq, aunary_not, aextract]) ff (fun _ => m_skip ?_)
    simp only
    have cond59 : ∀ (T4 : FT) (Q : FT → MS → Prop), T4.get 9 = .pointer (some ⟨j2, 0, none⟩) → T4.get 11 = bv → T4.get 12 = lv → T4.get 19 = .bool dead → (∀ T' S', Old S2 S' → Kp [2, 7, 9, 10, 11, 12, 13] T4 T' → T'.get 210 = .bool false → Q T' S') → mOps Try.prog O 237 (ro 4 59).toList (ro 4 59).toList [] T4 S2 Q := by
      intro T4 Q c9 c11 c12 c19 hQ
      rw [reg4_59, c9, c11, c12, c19]
      obtain ⟨rl, l1, l2, _, _⟩ := hL2.ex
      cases dead with
      | true =>
        refine ⟨true, rfl, fun _ => alike20 hp2.jj.isJ (by have := hp2.live; have := hp2.n; omega) hL2.b l1 l2 fun S3 f3 => ⟨.bool false, by rw [aunary_not]; simp, .bool false, rfl, hQ _ S3 f3 ?_ ?_⟩, tf⟩
        · simp [Kp, FT.get_set, c9, c11, c12]
        · simp [FT.get_set]
      | false =>
        refine ⟨false, rfl, ff, fun _ => ⟨.bool false, rfl, hQ _ S2 (Old.refl S2) ?_ ?_⟩⟩
        · simp [Kp, FT.get_set, c9, c11, c12]
        · simp [FT.get_set]
    refine m_seq (m_reg (cond59 _ _ (by simp [FT.get_set]) (by simp [FT.get_set, b11]) (by simp [FT.get_set, b12]) (by simp [FT.get_set, b19]) fun T5 S3 f3 k5 h210 => ?_))
    refine m_wf fun wf3 => m_cond (t := false) h210 ff (fun _ => m_skip ?_)
    simp only
    refine (tailC (i := i) (wb := wb) (av := av) (hp2.old wf2 f3) (hL2.old f3) (fun y hy => ⟨(hbf2 y hy).1.old f3, (f3.2 y (hbf2 y hy).1.1.1).trans (hbf2 y hy).2⟩) hN hws hrs hN2 ((k5 2 (by decide)).trans (by simp [FT.get_set, b2])) ((k5 7 (by decide)).trans (by simp [FT.get_set, b7])) ((k5 9 (by decide)).trans (by simp [FT.get_set])) ((k5 10 (by decide)).trans (by simp [FT.get_set, b10])) ((k5 11 (by decide)).trans (by simp [FT.get_set, b11])) ((k5 12 (by decide)).trans (by simp [FT.get_set, b12]))).mono ?_
    rintro y T6 S6 ⟨rfl, h1, h2⟩
    refine ⟨rfl, h1, h2.trans ((k5 13 (by decide)).trans ?_)⟩
    simp [FT.get_set, b13]
  · simp only
    have hd : dead = false := by cases dead with
      | false => rfl
      | true => exact absurd (ht rfl) (by rw [h]; decide)
    subst hd
    refine (tailC (i := i) (wb := wb) (av := av) hp hL hbf hN hws hrs hN2 b2 b7 b9 b10 b11 b12).mono ?_
    rintro y T6 S6 ⟨rfl, h1, h2⟩
    exact ⟨rfl, h1, h2.trans b13⟩
end
end Go.Proofs.Ytmfmbadfgnhonaa

