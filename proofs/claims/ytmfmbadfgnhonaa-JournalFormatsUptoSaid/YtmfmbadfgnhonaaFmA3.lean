/-
  The walk through the journal's code: what its functions do to memory, part FmA3. Nothing is asked.
-/
import Derived.Test.YtmfmbadfgnhonaaFmA2
set_option linter.all false
namespace Go.Proofs.Ytmfmbadfgnhonaa
open Go Go.Ag
set_option linter.unusedVariables false
set_option maxRecDepth 100000

noncomputable abbrev blk5 : Code := .block 0 (.seq (.region 18 (ro 5 18) false) (.cond (.tmp 81) (.seq (.region 19 (ro 5 19) false) (.cond (.tmp 91) (.seq (.region 20 (ro 5 20) false) .ret) .skip)) (.seq (.region 21 (ro 5 21) false) (.cond (.tmp 92) (.seq (.region 22 (ro 5 22) false) (.cond (.tmp 104) (.seq (.region 23 (ro 5 23) false) .ret) .skip)) (.seq (.region 24 (ro 5 24) false) (.cond (.tmp 105) (.seq (.region 25 (ro 5 25) false) .ret) .skip))))))

/-- it is opened: as what was laid down, or as what was there -/
theorem mid5 {S : MS} {d j half end' : Nat} {b tail first old : List UInt8} {dead : Bool} {v w : Value} {e : Int} {T : FT} (hj : IsJ S j d 0 half end' b [] tail dead) (hl : b.length ≤ 500) (hv : RB S v old) (hw : RB S w first) (he : (e = 0 ∧ b = first) ∨ (e = 12 ∧ (b = first ∨ b = old))) (t2 : T.get 2 = v) (t3 : T.get 3 = w) (t10 : T.get 10 = .int .i64 e) (t11 : T.get 11 = .int .i64 0) (t12 : T.get 12 = .pointer (some ⟨j, 0, none⟩)) :
    MWp Try.prog O 135 blk5 T S fun x T' S' => x = .normal ∧ Old S S' ∧ T'.get 3 = w ∧ T'.get 9 = T.get 9 := by
  refine m_wf fun wf => m_block (m_seq (m_reg ?_))
  rw [reg5_18]
  have hlv : liveN b [] ≤ 400000 := by unfold liveN; simp [wsum]; omega
  rcases he with ⟨rfl, rfl⟩ | ⟨rfl, hb⟩
  · simp (decide := true) only [FT.get_set, FT.setL, faS_ptr, nilS_ptr, nilS_func, nilS_yield, pickS_bool, ldS_ptr, list_cells, list_ro, partS_none, lenSl_of, lenStr_of, cvInt_of, aminmax_max, aminmax_min, abin_add, abin_sub, abin_mul, abin_eql, abin_neq, abin_lss, abin_leq, abin_gtr, abin_geq, aunary_not, aextract, Option.some.injEq, Prod.mk.injEq, Value.bool.injEq, exists_eq_left', exists_and_left, and_assoc, decide_eq_true_eq, decide_eq_false_iff_not, if_true, if_false, Nat.zero_add, Nat.add_zero, Option.bind_some, true_and, and_true, forall_const, true_implies, Bool.not_eq_true, Bool.false_eq_true, false_implies, ite_self, Nat.mul_one, t10, beq_self_eq_true]
    refine m_cond (t := true) (by simp [evalT, FT.get_set, FT.setL, faS_ptr, nilS_ptr, nilS_func, nilS_yield, pickS_bool, ldS_ptr, list_cells, list_ro, partS_none, lenSl_of, lenStr_of, cvInt_of, aminmax_max, aminmax_min, abin_add, abin_sub, abin_mul, abin_eql, abin_neq, abin_lss, abin_leq, abin_gtr, abin_geq, aunary_not, aextract]) (fun _ => ?_) tf
    refine m_seq (m_reg ?_)
    rw [reg5_19]
    simp only [FT.get_set, t11, t12, t3]
    simp (decide := true) only [if_false, if_true, t11, t12, t3]
    refine ⟨.bool false, by rw [abin_neq]; rfl, false, rfl, ff, fun _ => alike20 hj hlv hw (nonR S).1 (nonR S).2 fun S2 f2 => ⟨.bool false, by rw [aunary_not]; simp, .bool false, rfl, ?_⟩⟩
    refine m_cond (t := false) (by simp [evalT, FT.get_set, FT.setL, faS_ptr, nilS_ptr, nilS_func, nilS_yield, pickS_bool, ldS_ptr, list_cells, list_ro, partS_none, lenSl_of, lenStr_of, cvInt_of, aminmax_max, aminmax_min, abin_add, abin_sub, abin_mul, abin_eql, abin_neq, abin_lss, abin_leq, abin_gtr, abin_geq, aunary_not, aextract]) ff (fun _ => m_skip ?_)
    simp [FT.get_set, t3]
    exact f2
  · have e0 : ((12 : Int) == 0) = false := by decide
    simp (decide := true) only [FT.get_set, FT.setL, faS_ptr, nilS_ptr, nilS_func, nilS_yield, pickS_bool, ldS_ptr, list_cells, list_ro, partS_none, lenSl_of, lenStr_of, cvInt_of, aminmax_max, aminmax_min, abin_add, abin_sub, abin_mul, abin_eql, abin_neq, abin_lss, abin_leq, abin_gtr, abin_geq, aunary_not, aextract, Option.some.injEq, Prod.mk.injEq, Value.bool.injEq, exists_eq_left', exists_and_left, and_assoc, decide_eq_true_eq, decide_eq_false_iff_not, if_true, if_false, Nat.zero_add, Nat.add_zero, Option.bind_some, true_and, and_true, forall_const, true_implies, Bool.not_eq_true, Bool.false_eq_true, false_implies, ite_self, Nat.mul_one, t10, e0]
    refine m_cond (t := false) (by simp [evalT, FT.get_set, FT.setL, faS_ptr, nilS_ptr, nilS_func, nilS_yield, pickS_bool, ldS_ptr, list_cells, list_ro, partS_none, lenSl_of, lenStr_of, cvInt_of, aminmax_max, aminmax_min, abin_add, abin_sub, abin_mul, abin_eql, abin_neq, abin_lss, abin_leq, abin_gtr, abin_geq, aunary_not, aextract]) ff (fun _ => ?_)
    refine m_seq (m_reg ?_)
    rw [reg5_21]
    simp (decide := true) only [FT.get_set, FT.setL, faS_ptr, nilS_ptr, nilS_func, nilS_yield, pickS_bool, ldS_ptr, list_cells, list_ro, partS_none, lenSl_of, lenStr_of, cvInt_of, aminmax_max, aminmax_min, abin_add, abin_sub, abin_mul, abin_eql, abin_neq, abin_lss, abin_leq, abin_gtr, abin_geq, aunary_not, aextract, Option.some.injEq, Prod.mk.injEq, Value.bool.injEq, exists_eq_left', exists_and_left, and_assoc, decide_eq_true_eq, decide_eq_false_iff_not, if_true, if_false, Nat.zero_add, Nat.add_zero, Option.bind_some, true_and, and_true, forall_const, true_implies, Bool.not_eq_true, Bool.false_eq_true, false_implies, ite_self, Nat.mul_one, t11, beq_self_eq_true]
    refine m_cond (t := true) (by simp [evalT, FT.get_set, FT.setL, faS_ptr, nilS_ptr, nilS_func, nilS_yield, pickS_bool, ldS_ptr, list_cells, list_ro, partS_none, lenSl_of, lenStr_of, cvInt_of, aminmax_max, aminmax_min, abin_add, abin_sub, abin_mul, abin_eql, abin_neq, abin_lss, abin_leq, abin_gtr, abin_geq, aunary_not, aextract]) (fun _ => ?_) tf
    refine m_seq (m_reg ?_)
    rw [reg5_22]
    simp only [FT.get_set, t2, t12, t3]
    simp (decide := true) only [if_false, if_true, t2, t12, t3]
    refine alike20 hj hlv hw (nonR S).1 (nonR S).2 fun S2 f2 => ?_
    by_cases hbf : b = first
    · refine ⟨.bool false, by rw [aunary_not, decide_eq_true ⟨hbf, rfl⟩]; rfl, false, rfl, ff, fun _ => ⟨.bool false, rfl, ?_⟩⟩
      refine m_cond (t := false) (by simp [evalT, FT.get_set, FT.setL, faS_ptr, nilS_ptr, nilS_func, nilS_yield, pickS_bool, ldS_ptr, list_cells, list_ro, partS_none, lenSl_of, lenStr_of, cvInt_of, aminmax_max, aminmax_min, abin_add, abin_sub, abin_mul, abin_eql, abin_neq, abin_lss, abin_leq, abin_gtr, abin_geq, aunary_not, aextract]) ff (fun _ => m_skip ?_)
      simp [FT.get_set, t3]
      exact f2
    · have hbo : b = old := hb.resolve_left hbf
      refine ⟨.bool true, by rw [aunary_not, decide_eq_false (fun h => hbf h.1)]; rfl, true, rfl, fun _ => ?_, tf⟩
      refine alike20 (hj.old wf f2) hlv (hv.keep wf f2.2) (nonR S2).1 (nonR S2).2 fun S3 f3 => ?_
      refine ⟨.bool false, by rw [aunary_not, decide_eq_true ⟨hbo, rfl⟩]; rfl, .bool false, rfl, ?_⟩
      refine m_cond (t := false) (by simp [evalT, FT.get_set, FT.setL, faS_ptr, nilS_ptr, nilS_func, nilS_yield, pickS_bool, ldS_ptr, list_cells, list_ro, partS_none, lenSl_of, lenStr_of, cvInt_of, aminmax_max, aminmax_min, abin_add, abin_sub, abin_mul, abin_eql, abin_neq, abin_lss, abin_leq, abin_gtr, abin_geq, aunary_not, aextract]) ff (fun _ => m_skip ?_)
      simp [FT.get_set, t3]
      exact f2.trans f3
/-- it is none -/
theorem mid5_none {S : MS} {w : Value} {T : FT} (t3 : T.get 3 = w) (t10 : T.get 10 = .int .i64 12) (t11 : T.get 11 = .int .i64 191) :
    MWp Try.prog O 135 blk5 T S fun x T' S' => x = .normal ∧ Old S S' ∧ T'.get 3 = w ∧ T'.get 9 = T.get 9 := by
  refine m_block (m_seq (m_reg ?_))
  rw [reg5_18]
  have e0 : ((12 : Int) == 0) = false := by decide
  simp (decide := true) only [FT.get_set, FT.setL, faS_ptr, nilS_ptr, nilS_func, nilS_yield, pickS_bool, ldS_ptr, list_cells, list_ro, partS_none, lenSl_of, lenStr_of, cvInt_of, aminmax_max, aminmax_min, abin_add, abin_sub, abin_mul, abin_eql, abin_neq, abin_lss, abin_leq, abin_gtr, abin_geq, aunary_not, aextract, Option.some.injEq, Prod.mk.injEq, Value.bool.injEq, exists_eq_left', exists_and_left, and_assoc, decide_eq_true_eq, decide_eq_false_iff_not, if_true, if_false, Nat.zero_add, Nat.add_zero, Option.bind_some, true_and, and_true, forall_const, true_implies, Bool.not_eq_true, Bool.false_eq_true, false_implies, ite_self, Nat.mul_one, t10, e0]
  refine m_cond (t := false) (by simp [evalT, FT.get_set, FT.setL, faS_ptr, nilS_ptr, nilS_func, nilS_yield, pickS_bool, ldS_ptr, list_cells, list_ro, partS_none, lenSl_of, lenStr_of, cvInt_of, aminmax_max, aminmax_min, abin_add, abin_sub, abin_mul, abin_eql, abin_neq, abin_lss, abin_leq, abin_gtr, abin_geq, aunary_not, aextract]) ff (fun _ => ?_)
  refine m_seq (m_reg ?_)
  rw [reg5_21]
  have e1 : ((191 : Int) == 0) = false := by decide
  simp (decide := true) only [FT.get_set, FT.setL, faS_ptr, nilS_ptr, nilS_func, nilS_yield, pickS_bool, ldS_ptr, list_cells, list_ro, partS_none, lenSl_of, lenStr_of, cvInt_of, aminmax_max, aminmax_min, abin_add, abin_sub, abin_mul, abin_eql, abin_neq, abin_lss, abin_leq, abin_gtr, abin_geq, aunary_not, aextract, Option.some.injEq, Prod.mk.injEq, Value.bool.injEq, exists_eq_left', exists_and_left, and_assoc, decide_eq_true_eq, decide_eq_false_iff_not, if_true, if_false, Nat.zero_add, Nat.add_zero, Option.bind_some, true_and, and_true, forall_const, true_implies, Bool.not_eq_true, Bool.false_eq_true, false_implies, ite_self, Nat.mul_one, t11, e1]
  refine m_cond (t := false) (by simp [evalT, FT.get_set, FT.setL, faS_ptr, nilS_ptr, nilS_func, nilS_yield, pickS_bool, ldS_ptr, list_cells, list_ro, partS_none, lenSl_of, lenStr_of, cvInt_of, aminmax_max, aminmax_min, abin_add, abin_sub, abin_mul, abin_eql, abin_neq, abin_lss, abin_leq, abin_gtr, abin_geq, aunary_not, aextract]) ff (fun _ => ?_)
  refine m_seq (m_reg ?_)
  rw [reg5_24]
  have e2 : ((191 : Int) != 191) = false := by decide
  simp (decide := true) only [FT.get_set, FT.setL, faS_ptr, nilS_ptr, nilS_func, nilS_yield, pickS_bool, ldS_ptr, list_cells, list_ro, partS_none, lenSl_of, lenStr_of, cvInt_of, aminmax_max, aminmax_min, abin_add, abin_sub, abin_mul, abin_eql, abin_neq, abin_lss, abin_leq, abin_gtr, abin_geq, aunary_not, aextract, Option.some.injEq, Prod.mk.injEq, Value.bool.injEq, exists_eq_left', exists_and_left, and_assoc, decide_eq_true_eq, decide_eq_false_iff_not, if_true, if_false, Nat.zero_add, Nat.add_zero, Option.bind_some, true_and, and_true, forall_const, true_implies, Bool.not_eq_true, Bool.false_eq_true, false_implies, ite_self, Nat.mul_one, t11, e2]
  refine m_cond (t := false) (by simp [evalT, FT.get_set, FT.setL, faS_ptr, nilS_ptr, nilS_func, nilS_yield, pickS_bool, ldS_ptr, list_cells, list_ro, partS_none, lenSl_of, lenStr_of, cvInt_of, aminmax_max, aminmax_min, abin_add, abin_sub, abin_mul, abin_eql, abin_neq, abin_lss, abin_leq, abin_gtr, abin_geq, aunary_not, aextract]) ff (fun _ => m_skip ?_)
  simp [FT.get_set, t3]
  exact Old.refl S

theorem law5 {S : MS} (n cut : Int) {v w : Value} {old first : List UInt8} (hv : RB S v old) (hw : RB S w first) : CallM Try.prog O 5 [.int .i64 n, .int .i64 cut, v, w] S fun x _ => x = .bool true := by
  refine callM_wf fun wf => ?_
  refine callM_body (fnIs is5 body5 res5) (O_none (by decide)) (by simp) ?_
  refine m_seq (m_reg ?_)
  rw [reg5_0]
  refine m_seq (m_seq (m_reg ?_))
  rw [reg5_1]
  refine known5 ?_
  simp (decide := true) only [FT.get_set, FT.setL, faS_ptr, nilS_ptr, nilS_func, nilS_yield, pickS_bool, ldS_ptr, list_cells, list_ro, partS_none, lenSl_of, lenStr_of, cvInt_of, aminmax_max, aminmax_min, abin_add, abin_sub, abin_mul, abin_eql, abin_neq, abin_lss, abin_leq, abin_gtr, abin_geq, aunary_not, aextract, Option.some.injEq, Prod.mk.injEq, Value.bool.injEq, exists_eq_left', exists_and_left, and_assoc, decide_eq_true_eq, decide_eq_false_iff_not, if_true, if_false, Nat.zero_add, Nat.add_zero, Option.bind_some, true_and, and_true, forall_const, true_implies, Bool.not_eq_true, Bool.false_eq_true, false_implies, ite_self, Nat.mul_one, ]
  refine m_cond (t := false) (by simp [evalT, FT.get_set, FT.setL, faS_ptr, nilS_ptr, nilS_func, nilS_yield, pickS_bool, ldS_ptr, list_cells, list_ro, partS_none, lenSl_of, lenStr_of, cvInt_of, aminmax_max, aminmax_min, abin_add, abin_sub, abin_mul, abin_eql, abin_neq, abin_lss, abin_leq, abin_gtr, abin_geq, aunary_not, aextract]) ff (fun _ => m_skip ?_)
  simp only
  refine m_seq (m_seq (m_reg (g5 (n := n) (cut := cut) (v := v) (w := w) hv.len hw.len (by simp [FT.get_set, FT.setL, faS_ptr, nilS_ptr, nilS_func, nilS_yield, pickS_bool, ldS_ptr, list_cells, list_ro, partS_none, lenSl_of, lenStr_of, cvInt_of, aminmax_max, aminmax_min, abin_add, abin_sub, abin_mul, abin_eql, abin_neq, abin_lss, abin_leq, abin_gtr, abin_geq, aunary_not, aextract]) (by simp [FT.get_set, FT.setL, faS_ptr, nilS_ptr, nilS_func, nilS_yield, pickS_bool, ldS_ptr, list_cells, list_ro, partS_none, lenSl_of, lenStr_of, cvInt_of, aminmax_max, aminmax_min, abin_add, abin_sub, abin_mul, abin_eql, abin_neq, abin_lss, abin_leq, abin_gtr, abin_geq, aunary_not, aextract]) (by simp [FT.get_set, FT.setL, faS_ptr, nilS_ptr, nilS_func, nilS_yield, pickS_bool, ldS_ptr, list_cells, list_ro, partS_none, lenSl_of, lenStr_of, cvInt_of, aminmax_max, aminmax_min, abin_add, abin_sub, abin_mul, abin_eql, abin_neq, abin_lss, abin_leq, abin_gtr, abin_geq, aunary_not, aextract]) (by simp [FT.get_set, FT.setL, faS_ptr, nilS_ptr, nilS_func, nilS_yield, pickS_bool, ldS_ptr, list_cells, list_ro, partS_none, lenSl_of, lenStr_of, cvInt_of, aminmax_max, aminmax_min, abin_add, abin_sub, abin_mul, abin_eql, abin_neq, abin_lss, abin_leq, abin_gtr, abin_geq, aunary_not, aextract]) (fun _ T' h38 => ?_) fun hg T' h0 h1 h2 h3 h38 => ?_)))
  · refine m_cond (t := true) h38 (fun _ => ?_) tf
    refine m_seq (m_reg ?_)
    rw [reg5_4]
    refine m_ret ?_
    simp [resM, FT.get_set, FT.setL, faS_ptr, nilS_ptr, nilS_func, nilS_yield, pickS_bool, ldS_ptr, list_cells, list_ro, partS_none, lenSl_of, lenStr_of, cvInt_of, aminmax_max, aminmax_min, abin_add, abin_sub, abin_mul, abin_eql, abin_neq, abin_lss, abin_leq, abin_gtr, abin_geq, aunary_not, aextract, oneOrTuple]
  simp only [FT.get_set, FT.setL] at h0 h1 h2 h3
  simp (decide := true) only [if_false, if_true] at h0 h1 h2 h3
  obtain ⟨g1, g2, g3, g4, g5, g6⟩ := hg
  obtain ⟨N, rfl⟩ : ∃ N : Nat, n = N := ⟨n.toNat, by omega⟩
  refine m_cond (t := false) h38 ff (fun _ => m_skip ?_)
  simp only
  -- a new disk
  refine m_seq (m_reg ?_)
  rw [reg5_5]
  simp (decide := true) only [FT.get_set, FT.setL, faS_ptr, nilS_ptr, nilS_func, nilS_yield, pickS_bool, ldS_ptr, list_cells, list_ro, partS_none, lenSl_of, lenStr_of, cvInt_of, aminmax_max, aminmax_min, abin_add, abin_sub, abin_mul, abin_eql, abin_neq, abin_lss, abin_leq, abin_gtr, abin_geq, aunary_not, aextract, Option.some.injEq, Prod.mk.injEq, Value.bool.injEq, exists_eq_left', exists_and_left, and_assoc, decide_eq_true_eq, decide_eq_false_iff_not, if_true, if_false, Nat.zero_add, Nat.add_zero, Option.bind_some, true_and, and_true, forall_const, true_implies, Bool.not_eq_true, Bool.false_eq_true, false_implies, ite_self, Nat.mul_one, h0]
  refine callM_wf_post (new8 N (by omega) (by omega) fun S1 hI n1 f1 wf1 => ?_)
  simp (decide := true) only [FT.get_set, FT.setL, faS_ptr, nilS_ptr, nilS_func, nilS_yield, pickS_bool, ldS_ptr, list_cells, list_ro, partS_none, lenSl_of, lenStr_of, cvInt_of, aminmax_max, aminmax_min, abin_add, abin_sub, abin_mul, abin_eql, abin_neq, abin_lss, abin_leq, abin_gtr, abin_geq, aunary_not, aextract, Option.some.injEq, Prod.mk.injEq, Value.bool.injEq, exists_eq_left', exists_and_left, and_assoc, decide_eq_true_eq, decide_eq_false_iff_not, if_true, if_false, Nat.zero_add, Nat.add_zero, Option.bind_some, true_and, and_true, forall_const, true_implies, Bool.not_eq_true, Bool.false_eq_true, false_implies, ite_self, Nat.mul_one, List.getElem?_cons_zero, List.getElem?_cons_succ]
  refine m_seq (m_seq (m_reg ?_))
  rw [reg5_6]
  simp (decide := true) only [FT.get_set, FT.setL, faS_ptr, nilS_ptr, nilS_func, nilS_yield, pickS_bool, ldS_ptr, list_cells, list_ro, partS_none, lenSl_of, lenStr_of, cvInt_of, aminmax_max, aminmax_min, abin_add, abin_sub, abin_mul, abin_eql, abin_neq, abin_lss, abin_leq, abin_gtr, abin_geq, aunary_not, aextract, Option.some.injEq, Prod.mk.injEq, Value.bool.injEq, exists_eq_left', exists_and_left, and_assoc, decide_eq_true_eq, decide_eq_false_iff_not, if_true, if_false, Nat.zero_add, Nat.add_zero, Option.bind_some, true_and, and_true, forall_const, true_implies, Bool.not_eq_true, Bool.false_eq_true, false_implies, ite_self, Nat.mul_one, bne_self_eq_false]
  refine m_cond (t := false) (by simp [evalT, FT.get_set, FT.setL, faS_ptr, nilS_ptr, nilS_func, nilS_yield, pickS_bool, ldS_ptr, list_cells, list_ro, partS_none, lenSl_of, lenStr_of, cvInt_of, aminmax_max, aminmax_min, abin_add, abin_sub, abin_mul, abin_eql, abin_neq, abin_lss, abin_leq, abin_gtr, abin_geq, aunary_not, aextract]) ff (fun _ => m_skip ?_)
  simp only
  have hmd : (newDK S.n N).made.length = N := by simp [newDK]
  have hws0 : (newDK S.n N).ws.length = 0 := rfl
  have B1 : BF S S1 (S.n + 2) (newDK S.n N) := fun y hy => ⟨⟨by omega, by omega, by show y ≠ S.n + 1; omega, fun h => absurd rfl h, by show y ≠ S.n; omega⟩, f1 y hy⟩
  have hW1 := newW N S.n _ hI
  -- it isn't opened
  refine m_seq (m_reg ?_)
  rw [reg5_8]
  simp (decide := true) only [FT.get_set, FT.setL, faS_ptr, nilS_ptr, nilS_func, nilS_yield, pickS_bool, ldS_ptr, list_cells, list_ro, partS_none, lenSl_of, lenStr_of, cvInt_of, aminmax_max, aminmax_min, abin_add, abin_sub, abin_mul, abin_eql, abin_neq, abin_lss, abin_leq, abin_gtr, abin_geq, aunary_not, aextract, Option.some.injEq, Prod.mk.injEq, Value.bool.injEq, exists_eq_left', exists_and_left, and_assoc, decide_eq_true_eq, decide_eq_false_iff_not, if_true, if_false, Nat.zero_add, Nat.add_zero, Option.bind_some, true_and, and_true, forall_const, true_implies, Bool.not_eq_true, Bool.false_eq_true, false_implies, ite_self, Nat.mul_one, ]
  refine callM_wf_post (open10_none hI hW1.holds rfl (by rw [hmd]; omega) rfl fun S2 f2 wf2 => ?_)
  simp (decide := true) only [FT.get_set, FT.setL, faS_ptr, nilS_ptr, nilS_func, nilS_yield, pickS_bool, ldS_ptr, list_cells, list_ro, partS_none, lenSl_of, lenStr_of, cvInt_of, aminmax_max, aminmax_min, abin_add, abin_sub, abin_mul, abin_eql, abin_neq, abin_lss, abin_leq, abin_gtr, abin_geq, aunary_not, aextract, Option.some.injEq, Prod.mk.injEq, Value.bool.injEq, exists_eq_left', exists_and_left, and_assoc, decide_eq_true_eq, decide_eq_false_iff_not, if_true, if_false, Nat.zero_add, Nat.add_zero, Option.bind_some, true_and, and_true, forall_const, true_implies, Bool.not_eq_true, Bool.false_eq_true, false_implies, ite_self, Nat.mul_one, List.getElem?_cons_zero, List.getElem?_cons_succ]
  have hI2 := hI.old' wf1 f2
  have hW2 := hW1.old wf1 f2
  have B2 := B1.old f2
  refine m_seq (m_reg ?_)
  rw [reg5_9]
  simp (decide := true) only [FT.get_set, FT.setL, faS_ptr, nilS_ptr, nilS_func, nilS_yield, pickS_bool, ldS_ptr, list_cells, list_ro, partS_none, lenSl_of, lenStr_of, cvInt_of, aminmax_max, aminmax_min, abin_add, abin_sub, abin_mul, abin_eql, abin_neq, abin_lss, abin_leq, abin_gtr, abin_geq, aunary_not, aextract, Option.some.injEq, Prod.mk.injEq, Value.bool.injEq, exists_eq_left', exists_and_left, and_assoc, decide_eq_true_eq, decide_eq_false_iff_not, if_true, if_false, Nat.zero_add, Nat.add_zero, Option.bind_some, true_and, and_true, forall_const, true_implies, Bool.not_eq_true, Bool.false_eq_true, false_implies, ite_self, Nat.mul_one, h2]
  by_cases hsm : N < 64
  · refine format9_small hI2 (by rw [hmd]; exact hsm) ?_
    refine m_seq (m_seq (m_reg ?_))
    rw [reg5_10]
    have hlt : decide ((N : Int) < 64) = true := decide_eq_true (by omega)
    simp (decide := true) only [FT.get_set, FT.setL, faS_ptr, nilS_ptr, nilS_func, nilS_yield, pickS_bool, ldS_ptr, list_cells, list_ro, partS_none, lenSl_of, lenStr_of, cvInt_of, aminmax_max, aminmax_min, abin_add, abin_sub, abin_mul, abin_eql, abin_neq, abin_lss, abin_leq, abin_gtr, abin_geq, aunary_not, aextract, Option.some.injEq, Prod.mk.injEq, Value.bool.injEq, exists_eq_left', exists_and_left, and_assoc, decide_eq_true_eq, decide_eq_false_iff_not, if_true, if_false, Nat.zero_add, Nat.add_zero, Option.bind_some, true_and, and_true, forall_const, true_implies, Bool.not_eq_true, Bool.false_eq_true, false_implies, ite_self, Nat.mul_one, h0, hlt]
    refine m_cond (t := true) (by simp [evalT, FT.get_set, FT.setL, faS_ptr, nilS_ptr, nilS_func, nilS_yield, pickS_bool, ldS_ptr, list_cells, list_ro, partS_none, lenSl_of, lenStr_of, cvInt_of, aminmax_max, aminmax_min, abin_add, abin_sub, abin_mul, abin_eql, abin_neq, abin_lss, abin_leq, abin_gtr, abin_geq, aunary_not, aextract, hlt]) (fun _ => ?_) tf
    refine m_seq (m_reg ?_)
    rw [reg5_11]
    have e1 : ((191 : Int) == 191) = true := by decide
    have e2 : ((190 : Int) == 190) = true := by decide
    simp (decide := true) only [FT.get_set, FT.setL, faS_ptr, nilS_ptr, nilS_func, nilS_yield, pickS_bool, ldS_ptr, list_cells, list_ro, partS_none, lenSl_of, lenStr_of, cvInt_of, aminmax_max, aminmax_min, abin_add, abin_sub, abin_mul, abin_eql, abin_neq, abin_lss, abin_leq, abin_gtr, abin_geq, aunary_not, aextract, Option.some.injEq, Prod.mk.injEq, Value.bool.injEq, exists_eq_left', exists_and_left, and_assoc, decide_eq_true_eq, decide_eq_false_iff_not, if_true, if_false, Nat.zero_add, Nat.add_zero, Option.bind_some, true_and, and_true, forall_const, true_implies, Bool.not_eq_true, Bool.false_eq_true, false_implies, ite_self, Nat.mul_one, e1, e2]
    refine m_ret ?_
    simp [resM, FT.get_set, FT.setL, faS_ptr, nilS_ptr, nilS_func, nilS_yield, pickS_bool, ldS_ptr, list_cells, list_ro, partS_none, lenSl_of, lenStr_of, cvInt_of, aminmax_max, aminmax_min, abin_add, abin_sub, abin_mul, abin_eql, abin_neq, abin_lss, abin_leq, abin_gtr, abin_geq, aunary_not, aextract, oneOrTuple]
  have hlt : ¬ ((N : Int) < 64) := by omega
  refine callM_wf_post (formatP hI2 hW2 ⟨rfl, rfl⟩ (by rw [hmd]; omega) (B2.rb wf hv) (B2.on wf hv) (by rw [hmd]; omega) (by rw [hws0]; omega) fun S3 D3 G3 says3 run3 ws3 md3 wf3 => ?_)
  rw [hmd] at md3
  have B3 := B2.goes G3
  refine m_seq (m_seq (m_reg ?_))
  rw [reg5_10]
  simp (decide := true) only [FT.get_set, FT.setL, faS_ptr, nilS_ptr, nilS_func, nilS_yield, pickS_bool, ldS_ptr, list_cells, list_ro, partS_none, lenSl_of, lenStr_of, cvInt_of, aminmax_max, aminmax_min, abin_add, abin_sub, abin_mul, abin_eql, abin_neq, abin_lss, abin_leq, abin_gtr, abin_geq, aunary_not, aextract, Option.some.injEq, Prod.mk.injEq, Value.bool.injEq, exists_eq_left', exists_and_left, and_assoc, decide_eq_true_eq, decide_eq_false_iff_not, if_true, if_false, Nat.zero_add, Nat.add_zero, Option.bind_some, true_and, and_true, forall_const, true_implies, Bool.not_eq_true, Bool.false_eq_true, false_implies, ite_self, Nat.mul_one, h0, hlt]
  refine m_cond (t := false) (by simp [evalT, FT.get_set, FT.setL, faS_ptr, nilS_ptr, nilS_func, nilS_yield, pickS_bool, ldS_ptr, list_cells, list_ro, partS_none, lenSl_of, lenStr_of, cvInt_of, aminmax_max, aminmax_min, abin_add, abin_sub, abin_mul, abin_eql, abin_neq, abin_lss, abin_leq, abin_gtr, abin_geq, aunary_not, aextract, hlt]) ff (fun _ => m_skip ?_)
  simp only
  refine m_seq (m_seq (m_reg ?_))
  rw [reg5_12]
  have e1 : ((191 : Int) != 191) = false := by decide
  simp (decide := true) only [FT.get_set, FT.setL, faS_ptr, nilS_ptr, nilS_func, nilS_yield, pickS_bool, ldS_ptr, list_cells, list_ro, partS_none, lenSl_of, lenStr_of, cvInt_of, aminmax_max, aminmax_min, abin_add, abin_sub, abin_mul, abin_eql, abin_neq, abin_lss, abin_leq, abin_gtr, abin_geq, aunary_not, aextract, Option.some.injEq, Prod.mk.injEq, Value.bool.injEq, exists_eq_left', exists_and_left, and_assoc, decide_eq_true_eq, decide_eq_false_iff_not, if_true, if_false, Nat.zero_add, Nat.add_zero, Option.bind_some, true_and, and_true, forall_const, true_implies, Bool.not_eq_true, Bool.false_eq_true, false_implies, ite_self, Nat.mul_one, e1, bne_self_eq_false]
  refine m_cond (t := false) (by simp [evalT, FT.get_set, FT.setL, faS_ptr, nilS_ptr, nilS_func, nilS_yield, pickS_bool, ldS_ptr, list_cells, list_ro, partS_none, lenSl_of, lenStr_of, cvInt_of, aminmax_max, aminmax_min, abin_add, abin_sub, abin_mul, abin_eql, abin_neq, abin_lss, abin_leq, abin_gtr, abin_geq, aunary_not, aextract]) ff (fun _ => m_skip ?_)
  simp only
  -- the cut
  refine m_seq (m_reg ?_)
  rw [reg5_14]
  simp (decide := true) only [FT.get_set, FT.setL, faS_ptr, nilS_ptr, nilS_func, nilS_yield, pickS_bool, ldS_ptr, list_cells, list_ro, partS_none, lenSl_of, lenStr_of, cvInt_of, aminmax_max, aminmax_min, abin_add, abin_sub, abin_mul, abin_eql, abin_neq, abin_lss, abin_leq, abin_gtr, abin_geq, aunary_not, aextract, Option.some.injEq, Prod.mk.injEq, Value.bool.injEq, exists_eq_left', exists_and_left, and_assoc, decide_eq_true_eq, decide_eq_false_iff_not, if_true, if_false, Nat.zero_add, Nat.add_zero, Option.bind_some, true_and, and_true, forall_const, true_implies, Bool.not_eq_true, Bool.false_eq_true, false_implies, ite_self, Nat.mul_one, h1]
  refine callM_wf_post (haltW G3.is G3.hw cut fun _ S4 hI4 hW4 n4 _ k4 wf4 => ?_)
  have B4 := B3.flags k4
  have md4 : (haltD D3 cut).made.length = N := md3
  have ws4 : (haltD D3 cut).ws.length ≤ 301 := by show D3.ws.length ≤ 301; rw [hws0] at ws3; omega
  have hl4 := hW4.lens
  rw [md4] at hl4
  rw [hmd] at says3
  have says4 : Says N (appC (fun _ => List.replicate 256 0) ([] ++ formW N old)) 0 (liveN old []) old [] := by rw [md3] at says3; exact says3
  have hlo : liveN old [] = old.length + 8 := by unfold liveN; simp [wsum]
  have hlf : liveN first [] = first.length + 8 := by unfold liveN; simp [wsum]
  refine m_seq (m_reg ?_)
  rw [reg5_15]
  simp (decide := true) only [FT.get_set, FT.setL, faS_ptr, nilS_ptr, nilS_func, nilS_yield, pickS_bool, ldS_ptr, list_cells, list_ro, partS_none, lenSl_of, lenStr_of, cvInt_of, aminmax_max, aminmax_min, abin_add, abin_sub, abin_mul, abin_eql, abin_neq, abin_lss, abin_leq, abin_gtr, abin_geq, aunary_not, aextract, Option.some.injEq, Prod.mk.injEq, Value.bool.injEq, exists_eq_left', exists_and_left, and_assoc, decide_eq_true_eq, decide_eq_false_iff_not, if_true, if_false, Nat.zero_add, Nat.add_zero, Option.bind_some, true_and, and_true, forall_const, true_implies, Bool.not_eq_true, Bool.false_eq_true, false_implies, ite_self, Nat.mul_one, h3]
  have T12 : ∀ (x : Value), True := fun _ => trivial
  rw [hmd] at hW4 hl4
  have rest : ∀ (e : Int) (S5 : MS) (D5 : DK) (V : List (Nat × List UInt8)) (T5 : FT), S5.WF → Goes S4 (S.n + 2) (haltD D3 cut) (fun _ => List.replicate 256 0) ([] ++ formW N old) S5 D5 V → V.length ≤ 301 →
      ((e = 0 ∧ V = formW N first) ∨ (e = 12 ∧ V = []) ∨ (e = 12 ∧ appC (appC (fun _ => List.replicate 256 0) ([] ++ formW N old)) V 0 = List.replicate 256 0)) →
      T5.get 2 = v → T5.get 3 = w → T5.get 9 = .pointer (some ⟨S.n + 2, 0, none⟩) → T5.get 10 = .int .i64 e →
      MWp Try.prog O 135 (.seq (.region 16 (ro 5 16) false) (.seq (.region 17 (ro 5 17) false) (.seq (.block 0 (.seq (.region 18 (ro 5 18) false) (.cond (.tmp 81) (.seq (.region 19 (ro 5 19) false) (.cond (.tmp 91) (.seq (.region 20 (ro 5 20) false) .ret) .skip)) (.seq (.region 21 (ro 5 21) false) (.cond (.tmp 92) (.seq (.region 22 (ro 5 22) false) (.cond (.tmp 104) (.seq (.region 23 (ro 5 23) false) .ret) .skip)) (.seq (.region 24 (ro 5 24) false) (.cond (.tmp 105) (.seq (.region 25 (ro 5 25) false) .ret) .skip))))))) (.seq (.region 26 (ro 5 26) false) (.seq (.region 27 (ro 5 27) false) (.seq (.region 28 (ro 5 28) false) .ret)))))) T5 S5 fun x T' S' => x = .ret ∧ T'.get 8 = .bool true := by
    intro e S5 D5 V T5 wf5 G5 hV hcase t2 t3 t9 t10
    have B5 := B4.goes G5
    refine m_seq (m_reg ?_)
    rw [reg5_16]
    simp (decide := true) only [FT.get_set, FT.setL, faS_ptr, nilS_ptr, nilS_func, nilS_yield, pickS_bool, ldS_ptr, list_cells, list_ro, partS_none, lenSl_of, lenStr_of, cvInt_of, aminmax_max, aminmax_min, abin_add, abin_sub, abin_mul, abin_eql, abin_neq, abin_lss, abin_leq, abin_gtr, abin_geq, aunary_not, aextract, Option.some.injEq, Prod.mk.injEq, Value.bool.injEq, exists_eq_left', exists_and_left, and_assoc, decide_eq_true_eq, decide_eq_false_iff_not, if_true, if_false, Nat.zero_add, Nat.add_zero, Option.bind_some, true_and, and_true, forall_const, true_implies, Bool.not_eq_true, Bool.false_eq_true, false_implies, ite_self, Nat.mul_one, t9]
    refine callM_wf_post (restartW G5.is G5.hw fun _ S6 hI6 hW6 n6 _ k6 wf6 => ?_)
    have B6 := B5.flags k6
    have md6 : (restartD D5).made.length = N := by show D5.made.length = N; rw [G5.wn.made]; exact md4
    have ws6 : (restartD D5).ws.length ≤ 700 := by show D5.ws.length ≤ 700; rw [G5.wn.ws]; omega
    have h120 : N ≤ 120 := by omega
    refine m_seq (m_reg ?_)
    rw [reg5_17]
    simp (decide := true) only [FT.get_set, FT.setL, faS_ptr, nilS_ptr, nilS_func, nilS_yield, pickS_bool, ldS_ptr, list_cells, list_ro, partS_none, lenSl_of, lenStr_of, cvInt_of, aminmax_max, aminmax_min, abin_add, abin_sub, abin_mul, abin_eql, abin_neq, abin_lss, abin_leq, abin_gtr, abin_geq, aunary_not, aextract, Option.some.injEq, Prod.mk.injEq, Value.bool.injEq, exists_eq_left', exists_and_left, and_assoc, decide_eq_true_eq, decide_eq_false_iff_not, if_true, if_false, Nat.zero_add, Nat.add_zero, Option.bind_some, true_and, and_true, forall_const, true_implies, Bool.not_eq_true, Bool.false_eq_true, false_implies, ite_self, Nat.mul_one, t9]
    -- the last part
    have fin : ∀ (T7 : FT) (S7 : MS), Old S6 S7 → S7.WF → T7.get 3 = w → T7.get 9 = .pointer (some ⟨S.n + 2, 0, none⟩) → MWp Try.prog O 135 (.seq (.region 26 (ro 5 26) false) (.seq (.region 27 (ro 5 27) false) (.seq (.region 28 (ro 5 28) false) .ret))) T7 S7 fun x T' S' => x = .ret ∧ T'.get 8 = .bool true := by
      intro T7 S7 f7 wf7 a3 a9
      have B7 := B6.old f7
      exact tail5 (hI6.old' wf6 f7) (hW6.old wf6 f7) ⟨rfl, rfl⟩ (by rw [md6]; omega) (B7.rb wf hw) (B7.on wf hw) (by omega) (by omega) a3 a9
    have goOn : ∀ (b : List UInt8), b.length ≤ 500 → Says N (appC (fun _ => List.replicate 256 0) ([] ++ formW N old ++ V)) 0 (liveN b []) b [] → ((e = 0 ∧ b = first) ∨ (e = 12 ∧ (b = first ∨ b = old))) → CallM Try.prog O 10 [.pointer (some ⟨S.n + 2, 0, none⟩)] S6 fun p1 S1 => ∃ p3, aextract p1 0 = some p3 ∧ ∃ p4, aextract p1 1 = some p4 ∧ ∀ Tx : FT, Tx.get 2 = v → Tx.get 3 = w → Tx.get 9 = .pointer (some ⟨S.n + 2, 0, none⟩) → Tx.get 10 = .int .i64 e → Tx.get 11 = p4 → Tx.get 12 = p3 →
        MWp Try.prog O 135 (.seq blk5 (.seq (.region 26 (ro 5 26) false) (.seq (.region 27 (ro 5 27) false) (.seq (.region 28 (ro 5 28) false) .ret)))) Tx S1 fun x T' S' => x = .ret ∧ T'.get 8 = .bool true := by
      intro b hb hsays hc
      have hlb : liveN b [] = b.length + 8 := by unfold liveN; simp [wsum]
      refine openP hI6 hW6 rfl (by rw [md6]; omega) (by rw [md6]; exact hsays) (by rw [hlb, md6]; omega) fun j rv S7 f7 _ _ hp7 => ?_
      refine ⟨_, rfl, _, rfl, fun Tx b2 b3 b9 b10 b11 b12 => ?_⟩
      have B7 := B6.old f7
      refine m_wf fun wf7 => m_seq ((mid5 hp7.jj.isJ hb (B7.rb wf hv) (B7.rb wf hw) hc b2 b3 b10 b11 b12).mono ?_)
      rintro x T8 S8 ⟨rfl, f8, c3, c9⟩
      simp only
      refine m_wf fun wf8 => fin T8 S8 (f7.trans f8) wf8 c3 (c9.trans b9)
    have fold : ∀ {c : Nat → List UInt8} {A B : List (Nat × List UInt8)}, appC (appC c A) B = appC c (A ++ B) := fun {c A B} => (appC_app c A B).symm
    have close : (∃ b : List UInt8, b.length ≤ 500 ∧ Says N (appC (fun _ => List.replicate 256 0) ([] ++ formW N old ++ V)) 0 (liveN b []) b [] ∧ ((e = 0 ∧ b = first) ∨ (e = 12 ∧ (b = first ∨ b = old)))) ∨ (e = 12 ∧ appC (fun _ => List.replicate 256 0) ([] ++ formW N old ++ V) 0 = List.replicate 256 0) := by
      rcases hcase with ⟨rfl, rfl⟩ | ⟨rfl, rfl⟩ | ⟨rfl, h0⟩
      · refine .inl ⟨first, by omega, ?_, .inl ⟨rfl, rfl⟩⟩
        rw [appC_app]
        exact formW_says hl4 (by omega) first (by omega)
      · refine .inl ⟨old, by omega, ?_, .inr ⟨rfl, .inr rfl⟩⟩
        rw [List.append_nil]; exact says4
      · exact .inr ⟨rfl, by rw [appC_app]; exact h0⟩
    rcases close with ⟨b, hb, hsays, hc⟩ | ⟨rfl, h0⟩
    · refine (goOn b hb hsays hc).mono ?_
      rintro p1 S7 ⟨p3, e3, p4, e4, hgo⟩
      refine ⟨p3, e3, p4, e4, hgo _ ?_ ?_ ?_ ?_ ?_ ?_⟩ <;> simp [FT.get_set, t2, t3, t9, t10]
    · refine open10_none hI6 hW6.holds rfl (by rw [md6]; omega) h0 fun S7 f7 => ?_
      refine ⟨_, rfl, _, rfl, ?_⟩
      refine m_seq ((mid5_none (w := w) (by simp [FT.get_set, t3]) (by simp [FT.get_set, t10]) (by simp [FT.get_set])).mono ?_)
      rintro x T8 S8 ⟨rfl, f8, c3, c9⟩
      simp only
      refine m_wf fun wf8 => fin T8 S8 (f7.trans f8) wf8 c3 (c9.trans (by simp [FT.get_set, t9]))
  have fin : ∀ (e : Int) (S5 : MS) (D5 : DK) (V : List (Nat × List UInt8)) (T5 : FT), Goes S4 (S.n + 2) (haltD D3 cut) (fun _ => List.replicate 256 0) ([] ++ formW N old) S5 D5 V → V.length ≤ 301 →
      ((e = 0 ∧ V = formW N first) ∨ (e = 12 ∧ V = []) ∨ (e = 12 ∧ appC (appC (fun _ => List.replicate 256 0) ([] ++ formW N old)) V 0 = List.replicate 256 0)) →
      T5.get 2 = v → T5.get 3 = w → T5.get 9 = .pointer (some ⟨S.n + 2, 0, none⟩) → T5.get 10 = .int .i64 e →
      MWp Try.prog O 135 (.seq (.region 16 (ro 5 16) false) (.seq (.region 17 (ro 5 17) false) (.seq blk5 (.seq (.region 26 (ro 5 26) false) (.seq (.region 27 (ro 5 27) false) (.seq (.region 28 (ro 5 28) false) .ret)))))) T5 S5 fun x T' S' => (match x with | .exit _ => False | _ => True) ∧ ∃ vs, resM Try.prog T' S' [.tmp 8] = some vs ∧ oneOrTuple vs = .bool true := by
    intro e S5 D5 V T5 G5 hV hc a2 a3 a9 a10
    refine m_wf fun wf5 => (rest e S5 D5 V T5 wf5 G5 hV hc a2 a3 a9 a10).mono ?_
    rintro x T' S' ⟨rfl, h8⟩
    simp [resM, h8, oneOrTuple]
  have hfl := @formW_len N first (by omega)
  have hhalt : (haltD D3 cut).halt ≤ 9223372036854775807 := by show cut ≤ _; omega
  refine format9 (b := first) hI4 hW4 (by rw [md4]; omega) (B4.rb wf hw) (B4.on wf hw) (by rw [md4]; omega) (by omega) hhalt (fun S5 D5 G5 => ?_) fun k S5 D5 hk hcut G5 => ?_
  · rw [md4] at G5
    exact fin 0 S5 D5 _ _ G5 hfl (.inl ⟨rfl, rfl⟩) (by simp [FT.get_set, h2]) (by simp [FT.get_set, h3]) (by simp [FT.get_set]) (by simp [FT.get_set])
  · rw [md4] at G5 hk
    refine fin 12 S5 D5 _ _ G5 (by rw [List.length_take]; omega) ?_ (by simp [FT.get_set, h2]) (by simp [FT.get_set, h3]) (by simp [FT.get_set]) (by simp [FT.get_set])
    by_cases hk0 : k = 0
    · subst hk0
      exact .inr (.inl ⟨rfl, by rw [List.take_zero]⟩)
    · exact .inr (.inr ⟨rfl, formW_part (by omega) hk⟩)
end Go.Proofs.Ytmfmbadfgnhonaa

