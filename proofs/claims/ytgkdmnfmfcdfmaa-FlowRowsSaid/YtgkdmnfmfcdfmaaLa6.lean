/-
  The walk through the code of blocks and of what is reached, part L6: what its functions do to memory. Nothing is asked.
-/
import Derived.Test.YtgkdmnfmfcdfmaaLa5
set_option linter.all false
namespace Go.Proofs.Ytgkdmnfmfcdfmaa
open Go Go.Ag
set_option linter.unusedVariables false
set_option maxRecDepth 100000

theorem bsS_pair (S : MS) (z a b : Value) (ha : a.cells = #[a]) (hb : b.cells = #[b]) : bsS S 2 1 [z, z] [(0, a), (1, b)] = some (.slice (some ⟨S.n, 0, none⟩) 2 2, S.fresh [a, b] 1) := by
  unfold bsS
  simp [fillL, spliceL, ha, hb]

def nxB (b : Blk) : List Int := if b.e = 38 then [b.t] else if b.e = 39 then [b.t, b.l] else []

/-- After -/
theorem after27 {S : MS} {b : Blk} {Q : Value → MS → Prop} (hq : ∀ v S', Sl S' S.n v (nxB b) → Old S S' → Q v S') : CallM Try.prog O 27 [blkV b] S Q := by
  refine callM_body (fnIs is27 body27 res27) (O_none (by decide)) (by simp) ?_
  refine m_seq (m_reg ?_)
  rw [reg27_0]
  simp (decide := true) only [FT.get_set, FT.setL, faS_ptr, nilS_ptr, nilS_func, nilS_yield, pickS_bool, ldS_ptr, list_cells, list_ro, partS_none, lenSl_of, lenStr_of, cvInt_of, aminmax_max, aminmax_min, abin_add, abin_sub, abin_mul, abin_eql, abin_neq, abin_lss, abin_leq, abin_gtr, abin_geq, aunary_not, aextract, Option.some.injEq, Prod.mk.injEq, Value.bool.injEq, exists_eq_left', exists_and_left, and_assoc, decide_eq_true_eq, decide_eq_false_iff_not, if_true, if_false, Nat.zero_add, Nat.add_zero, Option.bind_some, true_and, and_true, forall_const, true_implies, Bool.not_eq_true, Bool.false_eq_true, false_implies, ite_self, Nat.mul_one, blkV_cells, ptrTo]
  have f1 : Old S (S.fresh (blkL b) 0) := ⟨Nat.le_succ _, fun y hy => fresh_old _ _ _ (Nat.ne_of_lt hy)⟩
  have hbx := fresh_at S (blkL b) 0
  refine m_seq (m_seq (m_reg ?_))
  rw [reg27_1]
  simp (decide := true) only [FT.get_set, FT.setL, faS_ptr, nilS_ptr, nilS_func, nilS_yield, pickS_bool, ldS_ptr, list_cells, list_ro, partS_none, lenSl_of, lenStr_of, cvInt_of, aminmax_max, aminmax_min, abin_add, abin_sub, abin_mul, abin_eql, abin_neq, abin_lss, abin_leq, abin_gtr, abin_geq, aunary_not, aextract, Option.some.injEq, Prod.mk.injEq, Value.bool.injEq, exists_eq_left', exists_and_left, and_assoc, decide_eq_true_eq, decide_eq_false_iff_not, if_true, if_false, Nat.zero_add, Nat.add_zero, Option.bind_some, true_and, and_true, forall_const, true_implies, Bool.not_eq_true, Bool.false_eq_true, false_implies, ite_self, Nat.mul_one, list_of hbx, bl1]
  refine m_block (m_seq (m_reg ?_))
  rw [reg27_2]
  simp (decide := true) only [FT.get_set, FT.setL, faS_ptr, nilS_ptr, nilS_func, nilS_yield, pickS_bool, ldS_ptr, list_cells, list_ro, partS_none, lenSl_of, lenStr_of, cvInt_of, aminmax_max, aminmax_min, abin_add, abin_sub, abin_mul, abin_eql, abin_neq, abin_lss, abin_leq, abin_gtr, abin_geq, aunary_not, aextract, Option.some.injEq, Prod.mk.injEq, Value.bool.injEq, exists_eq_left', exists_and_left, and_assoc, decide_eq_true_eq, decide_eq_false_iff_not, if_true, if_false, Nat.zero_add, Nat.add_zero, Option.bind_some, true_and, and_true, forall_const, true_implies, Bool.not_eq_true, Bool.false_eq_true, false_implies, ite_self, Nat.mul_one, ]
  refine m_cond (t := b.e == 38) (by simp [evalT, FT.get_set, FT.setL, faS_ptr, nilS_ptr, nilS_func, nilS_yield, pickS_bool, ldS_ptr, list_cells, list_ro, partS_none, lenSl_of, lenStr_of, cvInt_of, aminmax_max, aminmax_min, abin_add, abin_sub, abin_mul, abin_eql, abin_neq, abin_lss, abin_leq, abin_gtr, abin_geq, aunary_not, aextract]) (fun h38 => ?_) (fun h38 => ?_)
  · have h38 : b.e = 38 := by simpa using h38
    refine m_seq (m_reg ?_)
    rw [reg27_3]
    simp (decide := true) only [FT.get_set, FT.setL, faS_ptr, nilS_ptr, nilS_func, nilS_yield, pickS_bool, ldS_ptr, list_cells, list_ro, partS_none, lenSl_of, lenStr_of, cvInt_of, aminmax_max, aminmax_min, abin_add, abin_sub, abin_mul, abin_eql, abin_neq, abin_lss, abin_leq, abin_gtr, abin_geq, aunary_not, aextract, Option.some.injEq, Prod.mk.injEq, Value.bool.injEq, exists_eq_left', exists_and_left, and_assoc, decide_eq_true_eq, decide_eq_false_iff_not, if_true, if_false, Nat.zero_add, Nat.add_zero, Option.bind_some, true_and, and_true, forall_const, true_implies, Bool.not_eq_true, Bool.false_eq_true, false_implies, ite_self, Nat.mul_one, list_of hbx, bl3, bsS_one (S.fresh (blkL b) 0) 1 [.int .i64 0] (.int .i64 b.t) rfl rfl, cells_int]
    refine m_ret ?_
    simp [resM, FT.get_set, FT.setL, faS_ptr, nilS_ptr, nilS_func, nilS_yield, pickS_bool, ldS_ptr, list_cells, list_ro, partS_none, lenSl_of, lenStr_of, cvInt_of, aminmax_max, aminmax_min, abin_add, abin_sub, abin_mul, abin_eql, abin_neq, abin_lss, abin_leq, abin_gtr, abin_geq, aunary_not, aextract, oneOrTuple, fresh_n]
    refine hq _ _ ?_ (f1.trans ⟨Nat.le_succ _, fun y hy => fresh_old _ _ _ (Nat.ne_of_lt hy)⟩)
    have e : nxB b = [b.t] := by unfold nxB; rw [if_pos h38]
    rw [e]
    exact Sl.own (l := [b.t]) (junk := []) (fresh_at (S.fresh (blkL b) 0) [.int .i64 b.t] 1) (Nat.le_succ _) (.inr ⟨by decide, rfl⟩) (by simp)
  have h38 : b.e ≠ 38 := by simpa using h38
  refine m_seq (m_reg ?_)
  rw [reg27_4]
  simp (decide := true) only [FT.get_set, FT.setL, faS_ptr, nilS_ptr, nilS_func, nilS_yield, pickS_bool, ldS_ptr, list_cells, list_ro, partS_none, lenSl_of, lenStr_of, cvInt_of, aminmax_max, aminmax_min, abin_add, abin_sub, abin_mul, abin_eql, abin_neq, abin_lss, abin_leq, abin_gtr, abin_geq, aunary_not, aextract, Option.some.injEq, Prod.mk.injEq, Value.bool.injEq, exists_eq_left', exists_and_left, and_assoc, decide_eq_true_eq, decide_eq_false_iff_not, if_true, if_false, Nat.zero_add, Nat.add_zero, Option.bind_some, true_and, and_true, forall_const, true_implies, Bool.not_eq_true, Bool.false_eq_true, false_implies, ite_self, Nat.mul_one, ]
  refine m_cond (t := b.e == 39) (by simp [evalT, FT.get_set, FT.setL, faS_ptr, nilS_ptr, nilS_func, nilS_yield, pickS_bool, ldS_ptr, list_cells, list_ro, partS_none, lenSl_of, lenStr_of, cvInt_of, aminmax_max, aminmax_min, abin_add, abin_sub, abin_mul, abin_eql, abin_neq, abin_lss, abin_leq, abin_gtr, abin_geq, aunary_not, aextract]) (fun h39 => ?_) (fun h39 => ?_)
  · have h39 : b.e = 39 := by simpa using h39
    refine m_seq (m_reg ?_)
    rw [reg27_5]
    simp (decide := true) only [FT.get_set, FT.setL, faS_ptr, nilS_ptr, nilS_func, nilS_yield, pickS_bool, ldS_ptr, list_cells, list_ro, partS_none, lenSl_of, lenStr_of, cvInt_of, aminmax_max, aminmax_min, abin_add, abin_sub, abin_mul, abin_eql, abin_neq, abin_lss, abin_leq, abin_gtr, abin_geq, aunary_not, aextract, Option.some.injEq, Prod.mk.injEq, Value.bool.injEq, exists_eq_left', exists_and_left, and_assoc, decide_eq_true_eq, decide_eq_false_iff_not, if_true, if_false, Nat.zero_add, Nat.add_zero, Option.bind_some, true_and, and_true, forall_const, true_implies, Bool.not_eq_true, Bool.false_eq_true, false_implies, ite_self, Nat.mul_one, list_of hbx, bl3, bl4, bsS_pair (S.fresh (blkL b) 0) (.int .i64 0) (.int .i64 b.t) (.int .i64 b.l) rfl rfl]
    refine m_ret ?_
    simp [resM, FT.get_set, FT.setL, faS_ptr, nilS_ptr, nilS_func, nilS_yield, pickS_bool, ldS_ptr, list_cells, list_ro, partS_none, lenSl_of, lenStr_of, cvInt_of, aminmax_max, aminmax_min, abin_add, abin_sub, abin_mul, abin_eql, abin_neq, abin_lss, abin_leq, abin_gtr, abin_geq, aunary_not, aextract, oneOrTuple, fresh_n]
    refine hq _ _ ?_ (f1.trans ⟨Nat.le_succ _, fun y hy => fresh_old _ _ _ (Nat.ne_of_lt hy)⟩)
    have e : nxB b = [b.t, b.l] := by unfold nxB; rw [if_neg h38, if_pos h39]
    rw [e]
    exact Sl.own (l := [b.t, b.l]) (junk := []) (fresh_at (S.fresh (blkL b) 0) [.int .i64 b.t, .int .i64 b.l] 1) (Nat.le_succ _) (.inr ⟨by decide, rfl⟩) (by simp)
  have h39 : b.e ≠ 39 := by simpa using h39
  refine m_skip ?_
  simp only
  refine m_seq (m_reg ?_)
  rw [reg27_6]
  refine m_ret ?_
  simp [resM, FT.get_set, FT.setL, faS_ptr, nilS_ptr, nilS_func, nilS_yield, pickS_bool, ldS_ptr, list_cells, list_ro, partS_none, lenSl_of, lenStr_of, cvInt_of, aminmax_max, aminmax_min, abin_add, abin_sub, abin_mul, abin_eql, abin_neq, abin_lss, abin_leq, abin_gtr, abin_geq, aunary_not, aextract, oneOrTuple]
  refine hq _ _ ?_ f1
  have e : nxB b = [] := by unfold nxB; rw [if_neg h38, if_neg h39]
  rw [e]
  exact .non

/-- what may come behind the i-th block, by Reached's own function -/
theorem after26 {S : MS} {gb : Nat} {rr : Int} {gv : Value} {bs : List Blk} {b : Blk} {i : Nat} (hgb : S.m gb = some (.cells [.int .i64 rr, gv] 0)) (hg : Blks S gv bs) (hb : bs[i]? = some b) {Q : Value → MS → Prop} (hq : ∀ v S', Sl S' S.n v (nxB b) → Old S S' → Q v S') : CallM Try.prog O 26 [.int .i64 i, .pointer (some ⟨gb, 0, none⟩)] S Q := by
  refine callM_body (fnIs is26 body26 res26) (O_none (by decide)) (by simp) ?_
  refine m_seq (m_reg ?_)
  rw [reg26_0]
  refine m_seq (m_reg ?_)
  rw [reg26_1]
  obtain ⟨p, hp1, hp2⟩ := hg.at hb
  simp (decide := true) only [FT.get_set, FT.setL, faS_ptr, nilS_ptr, nilS_func, nilS_yield, pickS_bool, ldS_ptr, list_cells, list_ro, partS_none, lenSl_of, lenStr_of, cvInt_of, aminmax_max, aminmax_min, abin_add, abin_sub, abin_mul, abin_eql, abin_neq, abin_lss, abin_leq, abin_gtr, abin_geq, aunary_not, aextract, Option.some.injEq, Prod.mk.injEq, Value.bool.injEq, exists_eq_left', exists_and_left, and_assoc, decide_eq_true_eq, decide_eq_false_iff_not, if_true, if_false, Nat.zero_add, Nat.add_zero, Option.bind_some, true_and, and_true, forall_const, true_implies, Bool.not_eq_true, Bool.false_eq_true, false_implies, ite_self, Nat.mul_one, list_of hgb, List.getElem?_cons_zero, List.getElem?_cons_succ, hp1, hp2]
  refine after27 fun v S' h1 h2 => ?_
  refine m_ret ?_
  simp [resM, FT.get_set, FT.setL, faS_ptr, nilS_ptr, nilS_func, nilS_yield, pickS_bool, ldS_ptr, list_cells, list_ro, partS_none, lenSl_of, lenStr_of, cvInt_of, aminmax_max, aminmax_min, abin_add, abin_sub, abin_mul, abin_eql, abin_neq, abin_lss, abin_leq, abin_gtr, abin_geq, aunary_not, aextract, oneOrTuple]
  exact hq _ _ h1 h2
end Go.Proofs.Ytgkdmnfmfcdfmaa

