/-
  The walk through the code of blocks and of what is reached, part L15: what its functions do to memory. Nothing is asked.
-/
import Derived.Test.YtgkdmnfmfcdfmaaLa14
set_option linter.all false
namespace Go.Proofs.Ytgkdmnfmfcdfmaa
open Go Go.Ag
set_option linter.unusedVariables false
set_option maxRecDepth 100000

theorem bs_op (S : MS) (o : Op5) : bsS S 1 5 [.int .i64 0, .int .i64 0, .int .i64 0, .int .i64 0, .int .i64 0] [(0, .agg (opL o).toArray)] = some (.slice (some ⟨S.n, 0, none⟩) 1 1, S.fresh (opL o) 5) := bsS_one S 5 _ (.agg (opL o).toArray) rfl rfl
theorem sl_op {S : MS} {B : Nat} (o : Op5) (hB : B ≤ S.n) : SlF opL 5 (S.fresh (opL o) 5) B (.slice (some ⟨S.n, 0, none⟩) 1 1) [o] :=
  SlF.own (l := [o]) (junk := []) (by rw [fresh_at]; simp) hB (.inr ⟨by decide, rfl⟩)

/-- tail -/
theorem tail22 {S : MS} {b : Blk} {i : Nat} {n : Int} (hi : i < 100000) (he : endOk n b) {Q : Value → MS → Prop} (hq : ∀ v S', SlF opL 5 S' S.n v (tailL b i) → Old S S' → Q v S') : CallM Try.prog O 22 [blkV b, .int .i64 i] S Q := by
  refine callM_wf fun wf => ?_
  refine callM_body (fnIs is22 body22 res22) (O_none (by decide)) (by simp) ?_
  have hwi : IntKind.i64.wrap ((i : Int) + 1) = ((i + 1 : Nat) : Int) := by rw [wrap_i64 (by omega) (by omega)]; rfl
  refine m_seq (m_reg ?_)
  rw [reg22_0]
  simp (decide := true) only [FT.get_set, FT.setL, faS_ptr, nilS_ptr, nilS_func, nilS_yield, pickS_bool, ldS_ptr, list_cells, list_ro, partS_none, lenSl_of, lenStr_of, cvInt_of, aminmax_max, aminmax_min, abin_add, abin_sub, abin_mul, abin_eql, abin_neq, abin_lss, abin_leq, abin_gtr, abin_geq, aunary_not, aextract, Option.some.injEq, Prod.mk.injEq, Value.bool.injEq, exists_eq_left', exists_and_left, and_assoc, decide_eq_true_eq, decide_eq_false_iff_not, if_true, if_false, Nat.zero_add, Nat.add_zero, Option.bind_some, true_and, and_true, forall_const, true_implies, Bool.not_eq_true, Bool.false_eq_true, false_implies, ite_self, Nat.mul_one, blkV_cells, ptrTo]
  have f1 : Old S (S.fresh (blkL b) 0) := ⟨Nat.le_succ _, fun y hy => fresh_old _ _ _ (Nat.ne_of_lt hy)⟩
  have hbx := fresh_at S (blkL b) 0
  have wf1 := wf_fresh' wf (blkL b) 0
  have fo : ∀ o : Op5, Old S ((S.fresh (blkL b) 0).fresh (opL o) 5) := fun o => f1.trans ⟨Nat.le_succ _, fun y hy => fresh_old _ _ _ (Nat.ne_of_lt hy)⟩
  refine m_seq (m_seq (m_reg ?_))
  rw [reg22_1]
  simp (decide := true) only [FT.get_set, FT.setL, faS_ptr, nilS_ptr, nilS_func, nilS_yield, pickS_bool, ldS_ptr, list_cells, list_ro, partS_none, lenSl_of, lenStr_of, cvInt_of, aminmax_max, aminmax_min, abin_add, abin_sub, abin_mul, abin_eql, abin_neq, abin_lss, abin_leq, abin_gtr, abin_geq, aunary_not, aextract, Option.some.injEq, Prod.mk.injEq, Value.bool.injEq, exists_eq_left', exists_and_left, and_assoc, decide_eq_true_eq, decide_eq_false_iff_not, if_true, if_false, Nat.zero_add, Nat.add_zero, Option.bind_some, true_and, and_true, forall_const, true_implies, Bool.not_eq_true, Bool.false_eq_true, false_implies, ite_self, Nat.mul_one, list_of hbx, bl1]
  refine m_block (m_seq (m_reg ?_))
  rw [reg22_2]
  simp (decide := true) only [FT.get_set, FT.setL, faS_ptr, nilS_ptr, nilS_func, nilS_yield, pickS_bool, ldS_ptr, list_cells, list_ro, partS_none, lenSl_of, lenStr_of, cvInt_of, aminmax_max, aminmax_min, abin_add, abin_sub, abin_mul, abin_eql, abin_neq, abin_lss, abin_leq, abin_gtr, abin_geq, aunary_not, aextract, Option.some.injEq, Prod.mk.injEq, Value.bool.injEq, exists_eq_left', exists_and_left, and_assoc, decide_eq_true_eq, decide_eq_false_iff_not, if_true, if_false, Nat.zero_add, Nat.add_zero, Option.bind_some, true_and, and_true, forall_const, true_implies, Bool.not_eq_true, Bool.false_eq_true, false_implies, ite_self, Nat.mul_one, ]
  by_cases h40 : b.e = 40
  · have e40 : (b.e == 40) = true := by simp [h40]
    refine m_cond (t := true) (by simp [evalT, FT.get_set, FT.setL, faS_ptr, nilS_ptr, nilS_func, nilS_yield, pickS_bool, ldS_ptr, list_cells, list_ro, partS_none, lenSl_of, lenStr_of, cvInt_of, aminmax_max, aminmax_min, abin_add, abin_sub, abin_mul, abin_eql, abin_neq, abin_lss, abin_leq, abin_gtr, abin_geq, aunary_not, aextract, e40]) (fun _ => ?_) (fun h => by cases h)
    refine m_seq (m_reg ?_)
    rw [reg22_3]
    simp (decide := true) only [FT.get_set, FT.setL, faS_ptr, nilS_ptr, nilS_func, nilS_yield, pickS_bool, ldS_ptr, list_cells, list_ro, partS_none, lenSl_of, lenStr_of, cvInt_of, aminmax_max, aminmax_min, abin_add, abin_sub, abin_mul, abin_eql, abin_neq, abin_lss, abin_leq, abin_gtr, abin_geq, aunary_not, aextract, Option.some.injEq, Prod.mk.injEq, Value.bool.injEq, exists_eq_left', exists_and_left, and_assoc, decide_eq_true_eq, decide_eq_false_iff_not, if_true, if_false, Nat.zero_add, Nat.add_zero, Option.bind_some, true_and, and_true, forall_const, true_implies, Bool.not_eq_true, Bool.false_eq_true, false_implies, ite_self, Nat.mul_one, list_of hbx, bl2, bd_ret, bs_op]
    refine m_ret ?_
    simp [resM, FT.get_set, FT.setL, faS_ptr, nilS_ptr, nilS_func, nilS_yield, pickS_bool, ldS_ptr, list_cells, list_ro, partS_none, lenSl_of, lenStr_of, cvInt_of, aminmax_max, aminmax_min, abin_add, abin_sub, abin_mul, abin_eql, abin_neq, abin_lss, abin_leq, abin_gtr, abin_geq, aunary_not, aextract, oneOrTuple, fresh_n]
    refine hq _ _ ?_ (fo _)
    have e : tailL b i = [⟨40, 0, b.a, 0, 0⟩] := by unfold tailL; rw [if_pos h40]
    rw [e]
    exact sl_op (S := S.fresh (blkL b) 0) _ (Nat.le_succ _)
  have e40 : (b.e == 40) = false := by simp [h40]
  refine m_cond (t := false) (by simp [evalT, FT.get_set, FT.setL, faS_ptr, nilS_ptr, nilS_func, nilS_yield, pickS_bool, ldS_ptr, list_cells, list_ro, partS_none, lenSl_of, lenStr_of, cvInt_of, aminmax_max, aminmax_min, abin_add, abin_sub, abin_mul, abin_eql, abin_neq, abin_lss, abin_leq, abin_gtr, abin_geq, aunary_not, aextract, e40]) (fun h => by cases h) (fun _ => ?_)
  refine m_seq (m_reg ?_)
  rw [reg22_4]
  simp (decide := true) only [FT.get_set, FT.setL, faS_ptr, nilS_ptr, nilS_func, nilS_yield, pickS_bool, ldS_ptr, list_cells, list_ro, partS_none, lenSl_of, lenStr_of, cvInt_of, aminmax_max, aminmax_min, abin_add, abin_sub, abin_mul, abin_eql, abin_neq, abin_lss, abin_leq, abin_gtr, abin_geq, aunary_not, aextract, Option.some.injEq, Prod.mk.injEq, Value.bool.injEq, exists_eq_left', exists_and_left, and_assoc, decide_eq_true_eq, decide_eq_false_iff_not, if_true, if_false, Nat.zero_add, Nat.add_zero, Option.bind_some, true_and, and_true, forall_const, true_implies, Bool.not_eq_true, Bool.false_eq_true, false_implies, ite_self, Nat.mul_one, ]
  by_cases h39 : b.e = 39
  · have e39 : (b.e == 39) = true := by simp [h39]
    refine m_cond (t := true) (by simp [evalT, FT.get_set, FT.setL, faS_ptr, nilS_ptr, nilS_func, nilS_yield, pickS_bool, ldS_ptr, list_cells, list_ro, partS_none, lenSl_of, lenStr_of, cvInt_of, aminmax_max, aminmax_min, abin_add, abin_sub, abin_mul, abin_eql, abin_neq, abin_lss, abin_leq, abin_gtr, abin_geq, aunary_not, aextract, e39]) (fun _ => ?_) (fun h => by cases h)
    refine m_seq (m_reg ?_)
    rw [reg22_5]
    simp (decide := true) only [FT.get_set, FT.setL, faS_ptr, nilS_ptr, nilS_func, nilS_yield, pickS_bool, ldS_ptr, list_cells, list_ro, partS_none, lenSl_of, lenStr_of, cvInt_of, aminmax_max, aminmax_min, abin_add, abin_sub, abin_mul, abin_eql, abin_neq, abin_lss, abin_leq, abin_gtr, abin_geq, aunary_not, aextract, Option.some.injEq, Prod.mk.injEq, Value.bool.injEq, exists_eq_left', exists_and_left, and_assoc, decide_eq_true_eq, decide_eq_false_iff_not, if_true, if_false, Nat.zero_add, Nat.add_zero, Option.bind_some, true_and, and_true, forall_const, true_implies, Bool.not_eq_true, Bool.false_eq_true, false_implies, ite_self, Nat.mul_one, list_of hbx, bl2, bl3, bd_unless, bs_op]
    have hbx1 : ((S.fresh (blkL b) 0).fresh (opL ⟨39, 0, b.a, 0, b.t⟩) 5).m S.n = some (.cells (blkL b) 0) := by rw [fresh_old _ _ _ (by rw [fresh_n]; omega)]; exact hbx
    have hs1 : SlF opL 5 ((S.fresh (blkL b) 0).fresh (opL ⟨39, 0, b.a, 0, b.t⟩) 5) S.n (.slice (some ⟨S.n + 1, 0, none⟩) 1 1) [⟨39, 0, b.a, 0, b.t⟩] := sl_op (S := S.fresh (blkL b) 0) _ (Nat.le_succ _)
    refine m_seq (m_seq (m_reg ?_))
    rw [reg22_6]
    simp (decide := true) only [FT.get_set, FT.setL, faS_ptr, nilS_ptr, nilS_func, nilS_yield, pickS_bool, ldS_ptr, list_cells, list_ro, partS_none, lenSl_of, lenStr_of, cvInt_of, aminmax_max, aminmax_min, abin_add, abin_sub, abin_mul, abin_eql, abin_neq, abin_lss, abin_leq, abin_gtr, abin_geq, aunary_not, aextract, Option.some.injEq, Prod.mk.injEq, Value.bool.injEq, exists_eq_left', exists_and_left, and_assoc, decide_eq_true_eq, decide_eq_false_iff_not, if_true, if_false, Nat.zero_add, Nat.add_zero, Option.bind_some, true_and, and_true, forall_const, true_implies, Bool.not_eq_true, Bool.false_eq_true, false_implies, ite_self, Nat.mul_one, list_of hbx1, bl4, hwi]
    by_cases ht : b.l = ((i + 1 : Nat) : Int)
    · have e : tailL b i = [⟨39, 0, b.a, 0, b.t⟩] := by unfold tailL; rw [if_neg h40, if_pos h39, if_pos ht]
      refine m_cond (t := false) (by simp [evalT, FT.get_set, FT.setL, faS_ptr, nilS_ptr, nilS_func, nilS_yield, pickS_bool, ldS_ptr, list_cells, list_ro, partS_none, lenSl_of, lenStr_of, cvInt_of, aminmax_max, aminmax_min, abin_add, abin_sub, abin_mul, abin_eql, abin_neq, abin_lss, abin_leq, abin_gtr, abin_geq, aunary_not, aextract]; omega) (fun h => by cases h) (fun _ => m_skip ?_)
      simp only
      refine m_seq (m_reg ?_)
      rw [reg22_8]
      refine m_ret ?_
      simp [resM, FT.get_set, FT.setL, faS_ptr, nilS_ptr, nilS_func, nilS_yield, pickS_bool, ldS_ptr, list_cells, list_ro, partS_none, lenSl_of, lenStr_of, cvInt_of, aminmax_max, aminmax_min, abin_add, abin_sub, abin_mul, abin_eql, abin_neq, abin_lss, abin_leq, abin_gtr, abin_geq, aunary_not, aextract, oneOrTuple, fresh_n]
      refine hq _ _ ?_ (fo _)
      rw [e]; exact hs1
    · have e : tailL b i = [⟨39, 0, b.a, 0, b.t⟩] ++ [⟨38, 0, 0, 0, b.l⟩] := by unfold tailL; rw [if_neg h40, if_pos h39, if_neg ht]; rfl
      refine m_cond (t := true) (by simp [evalT, FT.get_set, FT.setL, faS_ptr, nilS_ptr, nilS_func, nilS_yield, pickS_bool, ldS_ptr, list_cells, list_ro, partS_none, lenSl_of, lenStr_of, cvInt_of, aminmax_max, aminmax_min, abin_add, abin_sub, abin_mul, abin_eql, abin_neq, abin_lss, abin_leq, abin_gtr, abin_geq, aunary_not, aextract]; omega) (fun _ => m_reg ?_) (fun h => by cases h)
      rw [reg22_7]
      have wf2 := wf_fresh' wf1 (opL ⟨39, 0, b.a, 0, b.t⟩) 5
      have hs2 := hs1.keep (S' := ((S.fresh (blkL b) 0).fresh (opL ⟨39, 0, b.a, 0, b.t⟩) 5).fresh (opL ⟨38, 0, 0, 0, b.l⟩) 5) fun y k hy => fresh_old _ _ _ (Nat.ne_of_lt (wf2 y k hy))
      obtain ⟨v', S', g1, g2, g3, g4⟩ := hs2.app (bytes := 40) (z := [.int .i64 0, .int .i64 0, .int .i64 0, .int .i64 0, .int .i64 0]) opL_len opL_one (by decide) (x := .slice (some ⟨S.n + 1 + 1, 0, none⟩) 1 1) (new := [⟨38, 0, 0, 0, b.l⟩]) (wf_fresh' wf2 _ _) (by simp only [fresh_n]; omega) rfl (by
        have h1 := fresh_at ((S.fresh (blkL b) 0).fresh (opL ⟨39, 0, b.a, 0, b.t⟩) 5) (opL ⟨38, 0, 0, 0, b.l⟩) 5
        simp only [fresh_n] at h1
        show firstCellsM _ 5 1 _ = _
        rw [first_of (n := 1) (sz := 5) (list_of h1) (by decide) (by decide) (by simp [opL_len])]; rfl) (by simp) (by simp)
      simp (decide := true) only [FT.get_set, FT.setL, faS_ptr, nilS_ptr, nilS_func, nilS_yield, pickS_bool, ldS_ptr, list_cells, list_ro, partS_none, lenSl_of, lenStr_of, cvInt_of, aminmax_max, aminmax_min, abin_add, abin_sub, abin_mul, abin_eql, abin_neq, abin_lss, abin_leq, abin_gtr, abin_geq, aunary_not, aextract, Option.some.injEq, Prod.mk.injEq, Value.bool.injEq, exists_eq_left', exists_and_left, and_assoc, decide_eq_true_eq, decide_eq_false_iff_not, if_true, if_false, Nat.zero_add, Nat.add_zero, Option.bind_some, true_and, and_true, forall_const, true_implies, Bool.not_eq_true, Bool.false_eq_true, false_implies, ite_self, Nat.mul_one, list_of hbx1, bl4, bd_jump, bs_op, fresh_n, g1]
      refine m_seq (m_reg ?_)
      rw [reg22_8]
      refine m_ret ?_
      simp [resM, FT.get_set, FT.setL, faS_ptr, nilS_ptr, nilS_func, nilS_yield, pickS_bool, ldS_ptr, list_cells, list_ro, partS_none, lenSl_of, lenStr_of, cvInt_of, aminmax_max, aminmax_min, abin_add, abin_sub, abin_mul, abin_eql, abin_neq, abin_lss, abin_leq, abin_gtr, abin_geq, aunary_not, aextract, oneOrTuple]
      refine hq _ _ ?_ ⟨by simp only [fresh_n] at g3; omega, fun y hy => by rw [g4 y (.inl hy), fresh_old _ _ _ (by simp only [fresh_n]; omega)]; exact (fo _).2 y hy⟩
      rw [e]; exact g2
  have e39 : (b.e == 39) = false := by simp [h39]
  refine m_cond (t := false) (by simp [evalT, FT.get_set, FT.setL, faS_ptr, nilS_ptr, nilS_func, nilS_yield, pickS_bool, ldS_ptr, list_cells, list_ro, partS_none, lenSl_of, lenStr_of, cvInt_of, aminmax_max, aminmax_min, abin_add, abin_sub, abin_mul, abin_eql, abin_neq, abin_lss, abin_leq, abin_gtr, abin_geq, aunary_not, aextract, e39]) (fun h => by cases h) (fun _ => m_skip ?_)
  simp only
  refine m_seq (m_seq (m_reg ?_))
  rw [reg22_9]
  simp (decide := true) only [FT.get_set, FT.setL, faS_ptr, nilS_ptr, nilS_func, nilS_yield, pickS_bool, ldS_ptr, list_cells, list_ro, partS_none, lenSl_of, lenStr_of, cvInt_of, aminmax_max, aminmax_min, abin_add, abin_sub, abin_mul, abin_eql, abin_neq, abin_lss, abin_leq, abin_gtr, abin_geq, aunary_not, aextract, Option.some.injEq, Prod.mk.injEq, Value.bool.injEq, exists_eq_left', exists_and_left, and_assoc, decide_eq_true_eq, decide_eq_false_iff_not, if_true, if_false, Nat.zero_add, Nat.add_zero, Option.bind_some, true_and, and_true, forall_const, true_implies, Bool.not_eq_true, Bool.false_eq_true, false_implies, ite_self, Nat.mul_one, list_of hbx, bl3, hwi]
  by_cases ht : b.t = ((i + 1 : Nat) : Int)
  · have e : tailL b i = [] := by unfold tailL; rw [if_neg h40, if_neg h39, if_pos ht]
    refine m_cond (t := true) (by simp [evalT, FT.get_set, FT.setL, faS_ptr, nilS_ptr, nilS_func, nilS_yield, pickS_bool, ldS_ptr, list_cells, list_ro, partS_none, lenSl_of, lenStr_of, cvInt_of, aminmax_max, aminmax_min, abin_add, abin_sub, abin_mul, abin_eql, abin_neq, abin_lss, abin_leq, abin_gtr, abin_geq, aunary_not, aextract]; omega) (fun _ => ?_) (fun h => by cases h)
    refine m_seq (m_reg ?_)
    rw [reg22_10]
    refine m_ret ?_
    simp [resM, FT.get_set, FT.setL, faS_ptr, nilS_ptr, nilS_func, nilS_yield, pickS_bool, ldS_ptr, list_cells, list_ro, partS_none, lenSl_of, lenStr_of, cvInt_of, aminmax_max, aminmax_min, abin_add, abin_sub, abin_mul, abin_eql, abin_neq, abin_lss, abin_leq, abin_gtr, abin_geq, aunary_not, aextract, oneOrTuple]
    refine hq _ _ ?_ f1
    rw [e]; exact .non
  · have e : tailL b i = [⟨38, 0, 0, 0, b.t⟩] := by unfold tailL; rw [if_neg h40, if_neg h39, if_neg ht]
    refine m_cond (t := false) (by simp [evalT, FT.get_set, FT.setL, faS_ptr, nilS_ptr, nilS_func, nilS_yield, pickS_bool, ldS_ptr, list_cells, list_ro, partS_none, lenSl_of, lenStr_of, cvInt_of, aminmax_max, aminmax_min, abin_add, abin_sub, abin_mul, abin_eql, abin_neq, abin_lss, abin_leq, abin_gtr, abin_geq, aunary_not, aextract]; omega) (fun h => by cases h) (fun _ => m_skip ?_)
    simp only
    refine m_seq (m_reg ?_)
    rw [reg22_11]
    simp (decide := true) only [FT.get_set, FT.setL, faS_ptr, nilS_ptr, nilS_func, nilS_yield, pickS_bool, ldS_ptr, list_cells, list_ro, partS_none, lenSl_of, lenStr_of, cvInt_of, aminmax_max, aminmax_min, abin_add, abin_sub, abin_mul, abin_eql, abin_neq, abin_lss, abin_leq, abin_gtr, abin_geq, aunary_not, aextract, Option.some.injEq, Prod.mk.injEq, Value.bool.injEq, exists_eq_left', exists_and_left, and_assoc, decide_eq_true_eq, decide_eq_false_iff_not, if_true, if_false, Nat.zero_add, Nat.add_zero, Option.bind_some, true_and, and_true, forall_const, true_implies, Bool.not_eq_true, Bool.false_eq_true, false_implies, ite_self, Nat.mul_one, list_of hbx, bl3, bd_jump, bs_op]
    refine m_ret ?_
    simp [resM, FT.get_set, FT.setL, faS_ptr, nilS_ptr, nilS_func, nilS_yield, pickS_bool, ldS_ptr, list_cells, list_ro, partS_none, lenSl_of, lenStr_of, cvInt_of, aminmax_max, aminmax_min, abin_add, abin_sub, abin_mul, abin_eql, abin_neq, abin_lss, abin_leq, abin_gtr, abin_geq, aunary_not, aextract, oneOrTuple, fresh_n]
    refine hq _ _ ?_ (fo _)
    rw [e]
    exact sl_op (S := S.fresh (blkL b) 0) _ (Nat.le_succ _)
end Go.Proofs.Ytgkdmnfmfcdfmaa

