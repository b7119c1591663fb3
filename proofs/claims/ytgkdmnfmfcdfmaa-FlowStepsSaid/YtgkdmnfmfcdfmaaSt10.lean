/-
  The walk through the code that goes through instructions, part 10: what its functions do to memory. Nothing is asked.
-/
import Derived.Test.YtgkdmnfmfcdfmaaSt9
set_option linter.all false
namespace Go.Proofs.Ytgkdmnfmfcdfmaa
open Go Go.Ag
set_option linter.unusedVariables false
set_option maxRecDepth 100000

theorem steps15 {S : MS} {rr : Int} {ov : Value} {os : List Op5} (ho : Ops S ov os) (hn : os.length ≤ 2500) : CallM Try.prog O 15 [fnV rr ov] S fun v S' => Told os S S' v 100 := by
  refine callM_wf fun wf => ?_
  refine callM_body (fnIs is15 body15 res15) (O_none (by decide)) (by simp) ?_
  have out : ∀ (T' : FT) (S' : MS), Old S S' → (os.length = 0 ∨ ¬ Good os) → T'.get 2 = .slice none 0 0 → T'.get 3 = .int .i64 100 → ((match AExit.ret with | .exit _ => False | _ => True) ∧ ∃ vs, resM Try.prog T' S' [.tmp 2, .tmp 3] = some vs ∧ Told os S S' (oneOrTuple vs) 100) := by
    intro T' S' ho hb h2 h3
    simp [resM, h2, h3, oneOrTuple]
    exact ⟨ho, .inl ⟨hb, rfl⟩⟩
  refine m_seq (m_reg ?_)
  rw [reg15_0]
  simp (decide := true) only [FT.get_set, FT.setL, faS_ptr, nilS_ptr, nilS_func, nilS_yield, pickS_bool, ldS_ptr, list_cells, list_ro, partS_none, lenSl_of, lenStr_of, cvInt_of, aminmax_max, aminmax_min, abin_add, abin_sub, abin_mul, abin_eql, abin_neq, abin_lss, abin_leq, abin_gtr, abin_geq, aunary_not, aextract, Option.some.injEq, Prod.mk.injEq, Value.bool.injEq, exists_eq_left', exists_and_left, and_assoc, decide_eq_true_eq, decide_eq_false_iff_not, if_true, if_false, Nat.zero_add, Nat.add_zero, Option.bind_some, true_and, and_true, forall_const, true_implies, Bool.not_eq_true, Bool.false_eq_true, false_implies, ite_self, Nat.mul_one, fnV_cells rr ho.one, ptrTo]
  have f1 : Old S (S.fresh [.int .i64 rr, ov] 0) := ⟨Nat.le_succ _, fun y hy => fresh_old _ _ _ (Nat.ne_of_lt hy)⟩
  have hfb := fresh_at S [.int .i64 rr, ov] 0
  have ho1 := ho.keep wf f1.2
  have wf1 := wf_fresh' wf [.int .i64 rr, ov] 0
  refine m_seq (m_seq (m_reg ?_))
  rw [reg15_1]
  simp (decide := true) only [FT.get_set, FT.setL, faS_ptr, nilS_ptr, nilS_func, nilS_yield, pickS_bool, ldS_ptr, list_cells, list_ro, partS_none, lenSl_of, lenStr_of, cvInt_of, aminmax_max, aminmax_min, abin_add, abin_sub, abin_mul, abin_eql, abin_neq, abin_lss, abin_leq, abin_gtr, abin_geq, aunary_not, aextract, Option.some.injEq, Prod.mk.injEq, Value.bool.injEq, exists_eq_left', exists_and_left, and_assoc, decide_eq_true_eq, decide_eq_false_iff_not, if_true, if_false, Nat.zero_add, Nat.add_zero, Option.bind_some, true_and, and_true, forall_const, true_implies, Bool.not_eq_true, Bool.false_eq_true, false_implies, ite_self, Nat.mul_one, list_of hfb, List.getElem?_cons_zero, List.getElem?_cons_succ, ho.len]
  refine m_cond (t := (os.length : Int) == 0) (by simp [evalT, FT.get_set, FT.setL, faS_ptr, nilS_ptr, nilS_func, nilS_yield, pickS_bool, ldS_ptr, list_cells, list_ro, partS_none, lenSl_of, lenStr_of, cvInt_of, aminmax_max, aminmax_min, abin_add, abin_sub, abin_mul, abin_eql, abin_neq, abin_lss, abin_leq, abin_gtr, abin_geq, aunary_not, aextract]) (fun h0 => ?_) (fun h0 => ?_)
  · refine m_seq (m_reg ?_)
    rw [reg15_2]
    exact m_ret (out _ _ f1 (.inl (by simpa using h0)) (by simp [FT.get_set, FT.setL, faS_ptr, nilS_ptr, nilS_func, nilS_yield, pickS_bool, ldS_ptr, list_cells, list_ro, partS_none, lenSl_of, lenStr_of, cvInt_of, aminmax_max, aminmax_min, abin_add, abin_sub, abin_mul, abin_eql, abin_neq, abin_lss, abin_leq, abin_gtr, abin_geq, aunary_not, aextract]) (by simp [FT.get_set, FT.setL, faS_ptr, nilS_ptr, nilS_func, nilS_yield, pickS_bool, ldS_ptr, list_cells, list_ro, partS_none, lenSl_of, lenStr_of, cvInt_of, aminmax_max, aminmax_min, abin_add, abin_sub, abin_mul, abin_eql, abin_neq, abin_lss, abin_leq, abin_gtr, abin_geq, aunary_not, aextract]))
  have h0 : os.length ≠ 0 := by simpa using h0
  refine m_skip ?_
  simp only
  refine m_seq (m_seq (m_reg ?_))
  rw [reg15_3]
  refine (check15 (ov := ov) hfb ho1 hn wf1 (by simp [FT.get_set, FT.setL, faS_ptr, nilS_ptr, nilS_func, nilS_yield, pickS_bool, ldS_ptr, list_cells, list_ro, partS_none, lenSl_of, lenStr_of, cvInt_of, aminmax_max, aminmax_min, abin_add, abin_sub, abin_mul, abin_eql, abin_neq, abin_lss, abin_leq, abin_gtr, abin_geq, aunary_not, aextract]) (by simp [FT.get_set, FT.setL, faS_ptr, nilS_ptr, nilS_func, nilS_yield, pickS_bool, ldS_ptr, list_cells, list_ro, partS_none, lenSl_of, lenStr_of, cvInt_of, aminmax_max, aminmax_min, abin_add, abin_sub, abin_mul, abin_eql, abin_neq, abin_lss, abin_leq, abin_gtr, abin_geq, aunary_not, aextract])).mono ?_
  rintro x T2 S2 (⟨rfl, hg, t1, hold⟩ | ⟨rfl, hb, h2, h3, hold⟩)
  · simp only
    have hfb2 := (hold.2 S.n (Nat.lt_succ_self _)).trans hfb
    refine m_wf fun wf2 => ?_
    refine m_seq (m_reg ?_)
    rw [reg15_9]
    simp (decide := true) only [FT.get_set, FT.setL, faS_ptr, nilS_ptr, nilS_func, nilS_yield, pickS_bool, ldS_ptr, list_cells, list_ro, partS_none, lenSl_of, lenStr_of, cvInt_of, aminmax_max, aminmax_min, abin_add, abin_sub, abin_mul, abin_eql, abin_neq, abin_lss, abin_leq, abin_gtr, abin_geq, aunary_not, aextract, Option.some.injEq, Prod.mk.injEq, Value.bool.injEq, exists_eq_left', exists_and_left, and_assoc, decide_eq_true_eq, decide_eq_false_iff_not, if_true, if_false, Nat.zero_add, Nat.add_zero, Option.bind_some, true_and, and_true, forall_const, true_implies, Bool.not_eq_true, Bool.false_eq_true, false_implies, ite_self, Nat.mul_one, t1, list_of hfb2, List.getElem?_cons_zero, List.getElem?_cons_succ, ho.len, msS_of (n := os.length) S2 1 1 [.bool false] .i64 .i64 (by omega) (by omega), ptrTo]
    have hz : zeros [.bool false] os.length = (List.replicate os.length false).map .bool := by rw [zeros_one, List.map_replicate]
    rw [hz]
    have hs2n : S.n + 1 ≤ S2.n := hold.1
    refine m_seq (m_reg ?_)
    rw [reg15_10]
    simp (decide := true) only [FT.get_set, FT.setL, faS_ptr, nilS_ptr, nilS_func, nilS_yield, pickS_bool, ldS_ptr, list_cells, list_ro, partS_none, lenSl_of, lenStr_of, cvInt_of, aminmax_max, aminmax_min, abin_add, abin_sub, abin_mul, abin_eql, abin_neq, abin_lss, abin_leq, abin_gtr, abin_geq, aunary_not, aextract, Option.some.injEq, Prod.mk.injEq, Value.bool.injEq, exists_eq_left', exists_and_left, and_assoc, decide_eq_true_eq, decide_eq_false_iff_not, if_true, if_false, Nat.zero_add, Nat.add_zero, Option.bind_some, true_and, and_true, forall_const, true_implies, Bool.not_eq_true, Bool.false_eq_true, false_implies, ite_self, Nat.mul_one, bsS_one (S2.fresh ((List.replicate os.length false).map .bool) 1) 1 [.int .i64 0] (.int .i64 0) rfl rfl, cells_int]
    refine m_seq (m_seq (m_reg ?_))
    rw [reg15_11]
    have f3 : ∀ y, y < S2.n → ((S2.fresh ((List.replicate os.length false).map .bool) 1).fresh [.int .i64 0] 1).m y = S2.m y := fun y hy => by
      rw [fresh_old _ _ _ (by simp only [fresh_n]; omega), fresh_old _ _ _ (by omega)]
    refine MWp.mono (queue15 (S0 := S) (fb := S.n) (ob := S2.n) (rr := rr) (ov := ov) hg hn h0 ho wf (by omega) (by omega) ?_) ?_
    · refine ⟨0, ⟨List.replicate os.length false, [0], Vis.start h0, by simp, by rw [un_false]; simp; omega, by rw [un_false]; simp, ?_, ?_, by simp only [fresh_n]; omega, ?_, fun x hx => ?_, by simp [FT.get_set, FT.setL, faS_ptr, nilS_ptr, nilS_func, nilS_yield, pickS_bool, ldS_ptr, list_cells, list_ro, partS_none, lenSl_of, lenStr_of, cvInt_of, aminmax_max, aminmax_min, abin_add, abin_sub, abin_mul, abin_eql, abin_neq, abin_lss, abin_leq, abin_gtr, abin_geq, aunary_not, aextract, t1], by simp [FT.get_set, FT.setL, faS_ptr, nilS_ptr, nilS_func, nilS_yield, pickS_bool, ldS_ptr, list_cells, list_ro, partS_none, lenSl_of, lenStr_of, cvInt_of, aminmax_max, aminmax_min, abin_add, abin_sub, abin_mul, abin_eql, abin_neq, abin_lss, abin_leq, abin_gtr, abin_geq, aunary_not, aextract]⟩, by simp [FT.get_set, FT.setL, faS_ptr, nilS_ptr, nilS_func, nilS_yield, pickS_bool, ldS_ptr, list_cells, list_ro, partS_none, lenSl_of, lenStr_of, cvInt_of, aminmax_max, aminmax_min, abin_add, abin_sub, abin_mul, abin_eql, abin_neq, abin_lss, abin_leq, abin_gtr, abin_geq, aunary_not, aextract]⟩
      · refine Eq.mpr (congrArg (fun v => Sl _ (S2.n + 1) v [0]) (?_ : _ = Value.slice (some ⟨S2.n + 1, 0, none⟩) 1 1)) ?_
        · simp [FT.get_set, FT.setL, faS_ptr, nilS_ptr, nilS_func, nilS_yield, pickS_bool, ldS_ptr, list_cells, list_ro, partS_none, lenSl_of, lenStr_of, cvInt_of, aminmax_max, aminmax_min, abin_add, abin_sub, abin_mul, abin_eql, abin_neq, abin_lss, abin_leq, abin_gtr, abin_geq, aunary_not, aextract, fresh_n]
        exact Sl.own (l := [0]) (junk := []) (fresh_at (S2.fresh ((List.replicate os.length false).map .bool) 1) [.int .i64 0] 1) (Nat.le_refl _) (.inr ⟨by decide, rfl⟩) (by decide)
      · rw [fresh_old _ _ _ (by simp only [fresh_n]; omega), fresh_at]
      · rw [f3 _ (by omega)]; exact hfb2
      · rw [f3 _ (by omega)]; exact (f1.trans hold).2 x hx
    · rintro _ T5 S5 ⟨rfl, ⟨ms, hv, hob⟩, t6, g1, g2⟩
      simp only
      refine m_seq (m_reg ?_)
      rw [reg15_22]
      simp (decide := true) only [FT.get_set, FT.setL, faS_ptr, nilS_ptr, nilS_func, nilS_yield, pickS_bool, ldS_ptr, list_cells, list_ro, partS_none, lenSl_of, lenStr_of, cvInt_of, aminmax_max, aminmax_min, abin_add, abin_sub, abin_mul, abin_eql, abin_neq, abin_lss, abin_leq, abin_gtr, abin_geq, aunary_not, aextract, Option.some.injEq, Prod.mk.injEq, Value.bool.injEq, exists_eq_left', exists_and_left, and_assoc, decide_eq_true_eq, decide_eq_false_iff_not, if_true, if_false, Nat.zero_add, Nat.add_zero, Option.bind_some, true_and, and_true, forall_const, true_implies, Bool.not_eq_true, Bool.false_eq_true, false_implies, ite_self, Nat.mul_one, t6]
      refine m_ret ?_
      simp [resM, FT.get_set, FT.setL, faS_ptr, nilS_ptr, nilS_func, nilS_yield, pickS_bool, ldS_ptr, list_cells, list_ro, partS_none, lenSl_of, lenStr_of, cvInt_of, aminmax_max, aminmax_min, abin_add, abin_sub, abin_mul, abin_eql, abin_neq, abin_lss, abin_leq, abin_gtr, abin_geq, aunary_not, aextract, oneOrTuple]
      exact ⟨⟨g1, g2⟩, .inr ⟨h0, hg, ms, S2.n, hv, by omega, hob, rfl⟩⟩
  · simp only
    exact out _ _ (f1.trans hold) (.inr hb) h2 h3

theorem under4 : Try.prog.underlying 4 = some .bool := by kernel_rfl

theorem flags13 {S : MS} {v v' : Value} {n : Nat} (hn : n ≤ 100000) (hl : lenSl v = some (.int .i64 n)) (hl' : lenSl v' = some (.int .i64 n)) (hat : ∀ i : Nat, i < n → ∃ b p p', iaSS 1 v (.int .i64 (i : Int)) = some p ∧ ldS none S p = some (.bool b) ∧ iaSS 1 v' (.int .i64 (i : Int)) = some p' ∧ ldS none S p' = some (.bool b)) {Q : Value → MS → Prop} (hq : Q (.bool true) S) :
    CallM Try.prog O 13 [v, v'] S Q := by
  refine callM_body (fnIs is13 body13 res13) (O_none (by decide)) (by simp) ?_
  refine m_seq (m_reg ?_)
  rw [reg13_0]
  refine m_seq (m_seq (m_reg ?_))
  rw [reg13_1]
  simp (decide := true) only [FT.get_set, FT.setL, faS_ptr, nilS_ptr, nilS_func, nilS_yield, pickS_bool, ldS_ptr, list_cells, list_ro, partS_none, lenSl_of, lenStr_of, cvInt_of, aminmax_max, aminmax_min, abin_add, abin_sub, abin_mul, abin_eql, abin_neq, abin_lss, abin_leq, abin_gtr, abin_geq, aunary_not, aextract, Option.some.injEq, Prod.mk.injEq, Value.bool.injEq, exists_eq_left', exists_and_left, and_assoc, decide_eq_true_eq, decide_eq_false_iff_not, if_true, if_false, Nat.zero_add, Nat.add_zero, Option.bind_some, true_and, and_true, forall_const, true_implies, Bool.not_eq_true, Bool.false_eq_true, false_implies, ite_self, Nat.mul_one, hl, hl', bne_self_eq_false]
  refine m_cond (t := false) (by simp [evalT, FT.get_set, FT.setL, faS_ptr, nilS_ptr, nilS_func, nilS_yield, pickS_bool, ldS_ptr, list_cells, list_ro, partS_none, lenSl_of, lenStr_of, cvInt_of, aminmax_max, aminmax_min, abin_add, abin_sub, abin_mul, abin_eql, abin_neq, abin_lss, abin_leq, abin_gtr, abin_geq, aunary_not, aextract]) (fun h => by cases h) (fun _ => ?_)
  refine m_skip ?_
  simp only
  refine m_seq (m_seq (m_reg ?_))
  rw [reg13_3]
  refine m_block (m_loop (fun m T S' => ∃ k : Nat, (k + m = n ∧ S' = S) ∧ T.get 0 = v ∧ T.get 1 = v' ∧ T.get 5 = .int .i64 k) n ⟨0, ⟨by omega, rfl⟩, by simp [FT.get_set, FT.setL, faS_ptr, nilS_ptr, nilS_func, nilS_yield, pickS_bool, ldS_ptr, list_cells, list_ro, partS_none, lenSl_of, lenStr_of, cvInt_of, aminmax_max, aminmax_min, abin_add, abin_sub, abin_mul, abin_eql, abin_neq, abin_lss, abin_leq, abin_gtr, abin_geq, aunary_not, aextract], by simp [FT.get_set, FT.setL, faS_ptr, nilS_ptr, nilS_func, nilS_yield, pickS_bool, ldS_ptr, list_cells, list_ro, partS_none, lenSl_of, lenStr_of, cvInt_of, aminmax_max, aminmax_min, abin_add, abin_sub, abin_mul, abin_eql, abin_neq, abin_lss, abin_leq, abin_gtr, abin_geq, aunary_not, aextract], by simp [FT.get_set, FT.setL, faS_ptr, nilS_ptr, nilS_func, nilS_yield, pickS_bool, ldS_ptr, list_cells, list_ro, partS_none, lenSl_of, lenStr_of, cvInt_of, aminmax_max, aminmax_min, abin_add, abin_sub, abin_mul, abin_eql, abin_neq, abin_lss, abin_leq, abin_gtr, abin_geq, aunary_not, aextract]⟩ ?_)
  rintro m T S1 ⟨k, ⟨hk, rfl⟩, t0, t1, t5⟩
  refine m_seq (m_seq (m_reg ?_))
  rw [reg13_4]
  simp (decide := true) only [FT.get_set, FT.setL, faS_ptr, nilS_ptr, nilS_func, nilS_yield, pickS_bool, ldS_ptr, list_cells, list_ro, partS_none, lenSl_of, lenStr_of, cvInt_of, aminmax_max, aminmax_min, abin_add, abin_sub, abin_mul, abin_eql, abin_neq, abin_lss, abin_leq, abin_gtr, abin_geq, aunary_not, aextract, Option.some.injEq, Prod.mk.injEq, Value.bool.injEq, exists_eq_left', exists_and_left, and_assoc, decide_eq_true_eq, decide_eq_false_iff_not, if_true, if_false, Nat.zero_add, Nat.add_zero, Option.bind_some, true_and, and_true, forall_const, true_implies, Bool.not_eq_true, Bool.false_eq_true, false_implies, ite_self, Nat.mul_one, t0, t5, hl]
  refine m_cond (t := decide ((k : Int) < n)) (by simp [evalT, FT.get_set, FT.setL, faS_ptr, nilS_ptr, nilS_func, nilS_yield, pickS_bool, ldS_ptr, list_cells, list_ro, partS_none, lenSl_of, lenStr_of, cvInt_of, aminmax_max, aminmax_min, abin_add, abin_sub, abin_mul, abin_eql, abin_neq, abin_lss, abin_leq, abin_gtr, abin_geq, aunary_not, aextract]) (fun hlt => ?_) (fun hlt => ?_)
  · have hlt : k < n := by have := of_decide_eq_true hlt; omega
    refine m_skip ?_
    simp only
    obtain ⟨b, p, p', h1, h2, h3, h4⟩ := hat k hlt
    refine m_seq (m_block (m_seq (m_draw ?_)))
    rw [reg13_6]
    simp (decide := true) only [FT.get_set, FT.setL, faS_ptr, nilS_ptr, nilS_func, nilS_yield, pickS_bool, ldS_ptr, list_cells, list_ro, partS_none, lenSl_of, lenStr_of, cvInt_of, aminmax_max, aminmax_min, abin_add, abin_sub, abin_mul, abin_eql, abin_neq, abin_lss, abin_leq, abin_gtr, abin_geq, aunary_not, aextract, Option.some.injEq, Prod.mk.injEq, Value.bool.injEq, exists_eq_left', exists_and_left, and_assoc, decide_eq_true_eq, decide_eq_false_iff_not, if_true, if_false, Nat.zero_add, Nat.add_zero, Option.bind_some, true_and, and_true, forall_const, true_implies, Bool.not_eq_true, Bool.false_eq_true, false_implies, ite_self, Nat.mul_one, t0, t1, t5, h1, h2, h3, h4, abin_bool_neq _ _ _ _ _ _ under4, beq_self_eq_true, Bool.not_true]
    refine m_cond (t := false) (by simp [evalT, FT.get_set, FT.setL, faS_ptr, nilS_ptr, nilS_func, nilS_yield, pickS_bool, ldS_ptr, list_cells, list_ro, partS_none, lenSl_of, lenStr_of, cvInt_of, aminmax_max, aminmax_min, abin_add, abin_sub, abin_mul, abin_eql, abin_neq, abin_lss, abin_leq, abin_gtr, abin_geq, aunary_not, aextract]) (fun h => by cases h) (fun _ => ?_)
    refine m_skip ?_
    simp only
    refine m_reg ?_
    rw [reg13_5]
    simp (decide := true) only [FT.get_set, FT.setL, faS_ptr, nilS_ptr, nilS_func, nilS_yield, pickS_bool, ldS_ptr, list_cells, list_ro, partS_none, lenSl_of, lenStr_of, cvInt_of, aminmax_max, aminmax_min, abin_add, abin_sub, abin_mul, abin_eql, abin_neq, abin_lss, abin_leq, abin_gtr, abin_geq, aunary_not, aextract, Option.some.injEq, Prod.mk.injEq, Value.bool.injEq, exists_eq_left', exists_and_left, and_assoc, decide_eq_true_eq, decide_eq_false_iff_not, if_true, if_false, Nat.zero_add, Nat.add_zero, Option.bind_some, true_and, and_true, forall_const, true_implies, Bool.not_eq_true, Bool.false_eq_true, false_implies, ite_self, Nat.mul_one, t5]
    have hw : IntKind.i64.wrap ((k : Int) + 1) = ((k + 1 : Nat) : Int) := by rw [wrap_i64 (by omega) (by omega)]; rfl
    rw [hw]
    exact ⟨m - 1, by omega, k + 1, by omega, by simp [FT.get_set, FT.setL, faS_ptr, nilS_ptr, nilS_func, nilS_yield, pickS_bool, ldS_ptr, list_cells, list_ro, partS_none, lenSl_of, lenStr_of, cvInt_of, aminmax_max, aminmax_min, abin_add, abin_sub, abin_mul, abin_eql, abin_neq, abin_lss, abin_leq, abin_gtr, abin_geq, aunary_not, aextract, t0], by simp [FT.get_set, FT.setL, faS_ptr, nilS_ptr, nilS_func, nilS_yield, pickS_bool, ldS_ptr, list_cells, list_ro, partS_none, lenSl_of, lenStr_of, cvInt_of, aminmax_max, aminmax_min, abin_add, abin_sub, abin_mul, abin_eql, abin_neq, abin_lss, abin_leq, abin_gtr, abin_geq, aunary_not, aextract, t1], by simp [FT.get_set, FT.setL, faS_ptr, nilS_ptr, nilS_func, nilS_yield, pickS_bool, ldS_ptr, list_cells, list_ro, partS_none, lenSl_of, lenStr_of, cvInt_of, aminmax_max, aminmax_min, abin_add, abin_sub, abin_mul, abin_eql, abin_neq, abin_lss, abin_leq, abin_gtr, abin_geq, aunary_not, aextract]⟩
  · refine m_exit ?_
    simp only [if_true]
    refine m_seq (m_reg ?_)
    rw [reg13_8]
    refine m_ret ?_
    simp [resM, FT.get_set, FT.setL, faS_ptr, nilS_ptr, nilS_func, nilS_yield, pickS_bool, ldS_ptr, list_cells, list_ro, partS_none, lenSl_of, lenStr_of, cvInt_of, aminmax_max, aminmax_min, abin_add, abin_sub, abin_mul, abin_eql, abin_neq, abin_lss, abin_leq, abin_gtr, abin_geq, aunary_not, aextract, oneOrTuple]
    exact hq
end Go.Proofs.Ytgkdmnfmfcdfmaa
