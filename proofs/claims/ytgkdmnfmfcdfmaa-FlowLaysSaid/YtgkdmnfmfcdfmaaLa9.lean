/-
  The walk through the code of blocks and of what is reached, part L9: what its functions do to memory. Nothing is asked.
-/
import Derived.Test.YtgkdmnfmfcdfmaaLa8
set_option linter.all false
namespace Go.Proofs.Ytgkdmnfmfcdfmaa
open Go Go.Ag
set_option linter.unusedVariables false
set_option maxRecDepth 100000

/-- what Reached tells -/
def ToldG (bs : List Blk) (S S' : MS) (v : Value) : Prop :=
  Old S S' ∧ ((¬ okG bs ∧ v = .tuple #[.slice none 0 0, .int .i64 100]) ∨ (okG bs ∧ ∃ ms b, VisG bs.length (nxG bs) ms [] ∧ S.n ≤ b ∧ S'.m b = some (.cells (ms.map .bool) 1) ∧ v = .tuple #[.slice (some ⟨b, 0, none⟩) bs.length bs.length, .int .i64 0]))

theorem reached12 {S : MS} {rr : Int} {gv : Value} {bs : List Blk} (hg : Blks S gv bs) (hsm : ∀ b ∈ bs, b.ops.length ≤ 1000000) : CallM Try.prog O 12 [fnV rr gv] S fun v S' => ToldG bs S S' v := by
  refine callM_wf fun wf => ?_
  refine callM_body (fnIs is12 body12 res12) (O_none (by decide)) (by simp) ?_
  refine m_seq (m_reg ?_)
  rw [reg12_0]
  simp (decide := true) only [FT.get_set, FT.setL, faS_ptr, nilS_ptr, nilS_func, nilS_yield, pickS_bool, ldS_ptr, list_cells, list_ro, partS_none, lenSl_of, lenStr_of, cvInt_of, aminmax_max, aminmax_min, abin_add, abin_sub, abin_mul, abin_eql, abin_neq, abin_lss, abin_leq, abin_gtr, abin_geq, aunary_not, aextract, Option.some.injEq, Prod.mk.injEq, Value.bool.injEq, exists_eq_left', exists_and_left, and_assoc, decide_eq_true_eq, decide_eq_false_iff_not, if_true, if_false, Nat.zero_add, Nat.add_zero, Option.bind_some, true_and, and_true, forall_const, true_implies, Bool.not_eq_true, Bool.false_eq_true, false_implies, ite_self, Nat.mul_one, fnV_cells rr hg.one, ptrTo]
  have f1 : Old S (S.fresh [.int .i64 rr, gv] 0) := ⟨Nat.le_succ _, fun y hy => fresh_old _ _ _ (Nat.ne_of_lt hy)⟩
  have hgb := fresh_at S [.int .i64 rr, gv] 0
  have hg1 := hg.keep wf f1.2
  have wf1 := wf_fresh' wf [.int .i64 rr, gv] 0
  refine m_seq (m_seq (m_reg ?_))
  rw [reg12_1]
  simp (decide := true) only [FT.get_set, FT.setL, faS_ptr, nilS_ptr, nilS_func, nilS_yield, pickS_bool, ldS_ptr, list_cells, list_ro, partS_none, lenSl_of, lenStr_of, cvInt_of, aminmax_max, aminmax_min, abin_add, abin_sub, abin_mul, abin_eql, abin_neq, abin_lss, abin_leq, abin_gtr, abin_geq, aunary_not, aextract, Option.some.injEq, Prod.mk.injEq, Value.bool.injEq, exists_eq_left', exists_and_left, and_assoc, decide_eq_true_eq, decide_eq_false_iff_not, if_true, if_false, Nat.zero_add, Nat.add_zero, Option.bind_some, true_and, and_true, forall_const, true_implies, Bool.not_eq_true, Bool.false_eq_true, false_implies, ite_self, Nat.mul_one, list_of hgb, partS_two]
  refine callM_wf_post (graph23 (rr := rr) hg1 hsm fun r S2 hr hold wf2 => ?_)
  simp (decide := true) only [FT.get_set, FT.setL, faS_ptr, nilS_ptr, nilS_func, nilS_yield, pickS_bool, ldS_ptr, list_cells, list_ro, partS_none, lenSl_of, lenStr_of, cvInt_of, aminmax_max, aminmax_min, abin_add, abin_sub, abin_mul, abin_eql, abin_neq, abin_lss, abin_leq, abin_gtr, abin_geq, aunary_not, aextract, Option.some.injEq, Prod.mk.injEq, Value.bool.injEq, exists_eq_left', exists_and_left, and_assoc, decide_eq_true_eq, decide_eq_false_iff_not, if_true, if_false, Nat.zero_add, Nat.add_zero, Option.bind_some, true_and, and_true, forall_const, true_implies, Bool.not_eq_true, Bool.false_eq_true, false_implies, ite_self, Nat.mul_one, ]
  have hgb2 := (hold.2 S.n (Nat.lt_succ_self _)).trans hgb
  have hs2n : S.n + 1 ≤ S2.n := hold.1
  cases r with
  | false =>
    refine m_cond (t := true) (by simp [evalT, FT.get_set, FT.setL, faS_ptr, nilS_ptr, nilS_func, nilS_yield, pickS_bool, ldS_ptr, list_cells, list_ro, partS_none, lenSl_of, lenStr_of, cvInt_of, aminmax_max, aminmax_min, abin_add, abin_sub, abin_mul, abin_eql, abin_neq, abin_lss, abin_leq, abin_gtr, abin_geq, aunary_not, aextract]) (fun _ => ?_) (fun h => by cases h)
    refine m_seq (m_reg ?_)
    rw [reg12_2]
    refine m_ret ?_
    simp [resM, FT.get_set, FT.setL, faS_ptr, nilS_ptr, nilS_func, nilS_yield, pickS_bool, ldS_ptr, list_cells, list_ro, partS_none, lenSl_of, lenStr_of, cvInt_of, aminmax_max, aminmax_min, abin_add, abin_sub, abin_mul, abin_eql, abin_neq, abin_lss, abin_leq, abin_gtr, abin_geq, aunary_not, aextract, oneOrTuple]
    exact ⟨f1.trans hold, .inl ⟨(fun h => by have := hr.2 h; cases this), rfl⟩⟩
  | true =>
    have hok := hr.1 rfl
    have hb2000 := hok.2.1
    have h0 : bs.length ≠ 0 := by have := hok.1; omega
    refine m_cond (t := false) (by simp [evalT, FT.get_set, FT.setL, faS_ptr, nilS_ptr, nilS_func, nilS_yield, pickS_bool, ldS_ptr, list_cells, list_ro, partS_none, lenSl_of, lenStr_of, cvInt_of, aminmax_max, aminmax_min, abin_add, abin_sub, abin_mul, abin_eql, abin_neq, abin_lss, abin_leq, abin_gtr, abin_geq, aunary_not, aextract]) (fun h => by cases h) (fun _ => ?_)
    refine m_skip ?_
    simp only
    refine m_seq (m_reg ?_)
    rw [reg12_3]
    simp (decide := true) only [FT.get_set, FT.setL, faS_ptr, nilS_ptr, nilS_func, nilS_yield, pickS_bool, ldS_ptr, list_cells, list_ro, partS_none, lenSl_of, lenStr_of, cvInt_of, aminmax_max, aminmax_min, abin_add, abin_sub, abin_mul, abin_eql, abin_neq, abin_lss, abin_leq, abin_gtr, abin_geq, aunary_not, aextract, Option.some.injEq, Prod.mk.injEq, Value.bool.injEq, exists_eq_left', exists_and_left, and_assoc, decide_eq_true_eq, decide_eq_false_iff_not, if_true, if_false, Nat.zero_add, Nat.add_zero, Option.bind_some, true_and, and_true, forall_const, true_implies, Bool.not_eq_true, Bool.false_eq_true, false_implies, ite_self, Nat.mul_one, list_of hgb2, List.getElem?_cons_zero, List.getElem?_cons_succ, hg.len, msS_of (n := bs.length) S2 1 1 [.bool false] .i64 .i64 (by omega) (by omega)]
    have hz : zeros [.bool false] bs.length = (List.replicate bs.length false).map .bool := by rw [zeros_one, List.map_replicate]
    rw [hz]
    refine m_seq (m_reg ?_)
    rw [reg12_4]
    simp (decide := true) only [FT.get_set, FT.setL, faS_ptr, nilS_ptr, nilS_func, nilS_yield, pickS_bool, ldS_ptr, list_cells, list_ro, partS_none, lenSl_of, lenStr_of, cvInt_of, aminmax_max, aminmax_min, abin_add, abin_sub, abin_mul, abin_eql, abin_neq, abin_lss, abin_leq, abin_gtr, abin_geq, aunary_not, aextract, Option.some.injEq, Prod.mk.injEq, Value.bool.injEq, exists_eq_left', exists_and_left, and_assoc, decide_eq_true_eq, decide_eq_false_iff_not, if_true, if_false, Nat.zero_add, Nat.add_zero, Option.bind_some, true_and, and_true, forall_const, true_implies, Bool.not_eq_true, Bool.false_eq_true, false_implies, ite_self, Nat.mul_one, bsS_one (S2.fresh ((List.replicate bs.length false).map .bool) 1) 1 [.int .i64 0] (.int .i64 0) rfl rfl, cells_int]
    refine m_seq (m_seq (m_reg ?_))
    rw [reg12_5]
    have f3 : ∀ y, y < S2.n → ((S2.fresh ((List.replicate bs.length false).map .bool) 1).fresh [.int .i64 0] 1).m y = S2.m y := fun y hy => by
      rw [fresh_old _ _ _ (by simp only [fresh_n]; omega), fresh_old _ _ _ (by omega)]
    refine MWp.mono (queue12 (S0 := S) (fb := S.n) (ob := S2.n) (rr := rr) (ov := gv) hok hg wf (by omega) (by omega) ?_) ?_
    · refine ⟨0, ⟨List.replicate bs.length false, [0], VisG.start h0, by simp, by rw [un_false]; simp; omega, by rw [un_false]; simp, ?_, ?_, by simp only [fresh_n]; omega, ?_, fun x hx => ?_, by simp [FT.get_set, FT.setL, faS_ptr, nilS_ptr, nilS_func, nilS_yield, pickS_bool, ldS_ptr, list_cells, list_ro, partS_none, lenSl_of, lenStr_of, cvInt_of, aminmax_max, aminmax_min, abin_add, abin_sub, abin_mul, abin_eql, abin_neq, abin_lss, abin_leq, abin_gtr, abin_geq, aunary_not, aextract], by simp [FT.get_set, FT.setL, faS_ptr, nilS_ptr, nilS_func, nilS_yield, pickS_bool, ldS_ptr, list_cells, list_ro, partS_none, lenSl_of, lenStr_of, cvInt_of, aminmax_max, aminmax_min, abin_add, abin_sub, abin_mul, abin_eql, abin_neq, abin_lss, abin_leq, abin_gtr, abin_geq, aunary_not, aextract]⟩, by simp [FT.get_set, FT.setL, faS_ptr, nilS_ptr, nilS_func, nilS_yield, pickS_bool, ldS_ptr, list_cells, list_ro, partS_none, lenSl_of, lenStr_of, cvInt_of, aminmax_max, aminmax_min, abin_add, abin_sub, abin_mul, abin_eql, abin_neq, abin_lss, abin_leq, abin_gtr, abin_geq, aunary_not, aextract]⟩
      · refine Eq.mpr (congrArg (fun v => Sl _ (S2.n + 1) v [0]) (?_ : _ = Value.slice (some ⟨S2.n + 1, 0, none⟩) 1 1)) ?_
        · simp [FT.get_set, FT.setL, faS_ptr, nilS_ptr, nilS_func, nilS_yield, pickS_bool, ldS_ptr, list_cells, list_ro, partS_none, lenSl_of, lenStr_of, cvInt_of, aminmax_max, aminmax_min, abin_add, abin_sub, abin_mul, abin_eql, abin_neq, abin_lss, abin_leq, abin_gtr, abin_geq, aunary_not, aextract, fresh_n]
        exact Sl.own (l := [0]) (junk := []) (fresh_at (S2.fresh ((List.replicate bs.length false).map .bool) 1) [.int .i64 0] 1) (Nat.le_refl _) (.inr ⟨by decide, rfl⟩) (by decide)
      · rw [fresh_old _ _ _ (by simp only [fresh_n]; omega), fresh_at]
      · rw [f3 _ (by omega)]; exact hgb2
      · rw [f3 _ (by omega)]; exact (f1.trans hold).2 x hx
    · rintro _ T5 S5 ⟨rfl, ⟨ms, hv, hob⟩, t6, g1, g2⟩
      simp only
      refine m_seq (m_reg ?_)
      rw [reg12_15]
      simp (decide := true) only [FT.get_set, FT.setL, faS_ptr, nilS_ptr, nilS_func, nilS_yield, pickS_bool, ldS_ptr, list_cells, list_ro, partS_none, lenSl_of, lenStr_of, cvInt_of, aminmax_max, aminmax_min, abin_add, abin_sub, abin_mul, abin_eql, abin_neq, abin_lss, abin_leq, abin_gtr, abin_geq, aunary_not, aextract, Option.some.injEq, Prod.mk.injEq, Value.bool.injEq, exists_eq_left', exists_and_left, and_assoc, decide_eq_true_eq, decide_eq_false_iff_not, if_true, if_false, Nat.zero_add, Nat.add_zero, Option.bind_some, true_and, and_true, forall_const, true_implies, Bool.not_eq_true, Bool.false_eq_true, false_implies, ite_self, Nat.mul_one, t6]
      refine m_ret ?_
      simp [resM, FT.get_set, FT.setL, faS_ptr, nilS_ptr, nilS_func, nilS_yield, pickS_bool, ldS_ptr, list_cells, list_ro, partS_none, lenSl_of, lenStr_of, cvInt_of, aminmax_max, aminmax_min, abin_add, abin_sub, abin_mul, abin_eql, abin_neq, abin_lss, abin_leq, abin_gtr, abin_geq, aunary_not, aextract, oneOrTuple]
      exact ⟨⟨g1, g2⟩, .inr ⟨hok, ms, S2.n, hv, by omega, hob, rfl⟩⟩
end Go.Proofs.Ytgkdmnfmfcdfmaa

