/-
  The walk through the code of blocks and of what is reached, part L22: what its functions do to memory. Nothing is asked.
-/
import Derived.Test.YtgkdmnfmfcdfmaaLa21
set_option linter.all false
namespace Go.Proofs.Ytgkdmnfmfcdfmaa
open Go Go.Ag
set_option linter.unusedVariables false
set_option maxRecDepth 100000

/-- flow.Reached -/
theorem reached11 {S : MS} {rr : Int} {gv : Value} {bs : List Blk} (hg : Blks S gv bs) (hp : pos bs bs.length ≤ 1000000) : CallM Try.prog O 11 [fnV rr gv] S fun v S' => ToldG bs S S' v := by
  refine callM_wf fun wf => ?_
  refine callM_body (fnIs is11 body11 res11) (O_none (by decide)) (by simp) ?_
  refine m_seq (m_reg ?_)
  rw [reg11_0]
  simp (decide := true) only [FT.get_set, FT.setL, faS_ptr, nilS_ptr, nilS_func, nilS_yield, pickS_bool, ldS_ptr, list_cells, list_ro, partS_none, lenSl_of, lenStr_of, cvInt_of, aminmax_max, aminmax_min, abin_add, abin_sub, abin_mul, abin_eql, abin_neq, abin_lss, abin_leq, abin_gtr, abin_geq, aunary_not, aextract, Option.some.injEq, Prod.mk.injEq, Value.bool.injEq, exists_eq_left', exists_and_left, and_assoc, decide_eq_true_eq, decide_eq_false_iff_not, if_true, if_false, Nat.zero_add, Nat.add_zero, Option.bind_some, true_and, and_true, forall_const, true_implies, Bool.not_eq_true, Bool.false_eq_true, false_implies, ite_self, Nat.mul_one, fnV_cells rr hg.one, ptrTo]
  have f1 : Old S (S.fresh [.int .i64 rr, gv] 0) := ⟨Nat.le_succ _, fun y hy => fresh_old _ _ _ (Nat.ne_of_lt hy)⟩
  have hgb := fresh_at S [.int .i64 rr, gv] 0
  have hg1 := hg.keep wf f1.2
  have wf1 := wf_fresh' wf [.int .i64 rr, gv] 0
  refine m_seq (m_seq (m_reg ?_))
  rw [reg11_1]
  simp (decide := true) only [FT.get_set, FT.setL, faS_ptr, nilS_ptr, nilS_func, nilS_yield, pickS_bool, ldS_ptr, list_cells, list_ro, partS_none, lenSl_of, lenStr_of, cvInt_of, aminmax_max, aminmax_min, abin_add, abin_sub, abin_mul, abin_eql, abin_neq, abin_lss, abin_leq, abin_gtr, abin_geq, aunary_not, aextract, Option.some.injEq, Prod.mk.injEq, Value.bool.injEq, exists_eq_left', exists_and_left, and_assoc, decide_eq_true_eq, decide_eq_false_iff_not, if_true, if_false, Nat.zero_add, Nat.add_zero, Option.bind_some, true_and, and_true, forall_const, true_implies, Bool.not_eq_true, Bool.false_eq_true, false_implies, ite_self, Nat.mul_one, list_of hgb, partS_two]
  refine callM_wf_post (CallM.mono (fn9 (rr := rr) hg1 hp) ?_)
  rintro v S2 ⟨hold, htold⟩ wf2
  have hgb2 := (hold.2 S.n (Nat.lt_succ_self _)).trans hgb
  have hs2n : S.n + 1 ≤ S2.n := hold.1
  rcases htold with ⟨hno, rfl⟩ | ⟨hok, w, hw, rfl⟩
  · obtain ⟨S4, u1, u2, u3, u4⟩ := st_all (n := 2) (cs := #[.int .i64 0, .slice none 0 0]) (fresh_at S2 [.int .i64 0, .slice none 0 0] 0) rfl rfl rfl
    simp (decide := true) only [FT.get_set, FT.setL, faS_ptr, nilS_ptr, nilS_func, nilS_yield, pickS_bool, ldS_ptr, list_cells, list_ro, partS_none, lenSl_of, lenStr_of, cvInt_of, aminmax_max, aminmax_min, abin_add, abin_sub, abin_mul, abin_eql, abin_neq, abin_lss, abin_leq, abin_gtr, abin_geq, aunary_not, aextract, Option.some.injEq, Prod.mk.injEq, Value.bool.injEq, exists_eq_left', exists_and_left, and_assoc, decide_eq_true_eq, decide_eq_false_iff_not, if_true, if_false, Nat.zero_add, Nat.add_zero, Option.bind_some, true_and, and_true, forall_const, true_implies, Bool.not_eq_true, Bool.false_eq_true, false_implies, ite_self, Nat.mul_one, List.getElem?_cons_zero, List.getElem?_cons_succ, ptrTo]
    refine ⟨S4, u1, ?_⟩
    have f4 : Old S2 S4 := ⟨by rw [u3, fresh_n]; omega, fun y hy => by rw [u4 y (by omega), fresh_old _ _ _ (by omega)]⟩
    refine m_seq (m_reg ?_)
    rw [reg11_2]
    simp (decide := true) only [FT.get_set, FT.setL, faS_ptr, nilS_ptr, nilS_func, nilS_yield, pickS_bool, ldS_ptr, list_cells, list_ro, partS_none, lenSl_of, lenStr_of, cvInt_of, aminmax_max, aminmax_min, abin_add, abin_sub, abin_mul, abin_eql, abin_neq, abin_lss, abin_leq, abin_gtr, abin_geq, aunary_not, aextract, Option.some.injEq, Prod.mk.injEq, Value.bool.injEq, exists_eq_left', exists_and_left, and_assoc, decide_eq_true_eq, decide_eq_false_iff_not, if_true, if_false, Nat.zero_add, Nat.add_zero, Option.bind_some, true_and, and_true, forall_const, true_implies, Bool.not_eq_true, Bool.false_eq_true, false_implies, ite_self, Nat.mul_one, ]
    refine m_cond (t := true) (by simp [evalT, FT.get_set, FT.setL, faS_ptr, nilS_ptr, nilS_func, nilS_yield, pickS_bool, ldS_ptr, list_cells, list_ro, partS_none, lenSl_of, lenStr_of, cvInt_of, aminmax_max, aminmax_min, abin_add, abin_sub, abin_mul, abin_eql, abin_neq, abin_lss, abin_leq, abin_gtr, abin_geq, aunary_not, aextract]) (fun _ => ?_) (fun h => by cases h)
    refine m_seq (m_reg ?_)
    rw [reg11_3]
    refine m_ret ?_
    simp [resM, FT.get_set, FT.setL, faS_ptr, nilS_ptr, nilS_func, nilS_yield, pickS_bool, ldS_ptr, list_cells, list_ro, partS_none, lenSl_of, lenStr_of, cvInt_of, aminmax_max, aminmax_min, abin_add, abin_sub, abin_mul, abin_eql, abin_neq, abin_lss, abin_leq, abin_gtr, abin_geq, aunary_not, aextract, oneOrTuple]
    exact ⟨(f1.trans hold).trans f4, .inl ⟨hno, rfl⟩⟩
  · have hb2000 := hok.2.1
    have h0 : bs.length ≠ 0 := by have := hok.1; omega
    obtain ⟨S4, u1, u2, u3, u4⟩ := st_all (n := 2) (cs := #[.int .i64 rr, w]) (fresh_at S2 [.int .i64 0, .slice none 0 0] 0) rfl rfl (by
      show ([.int .i64 rr, w] : List Value).all oneCell = true
      simp only [List.all_cons, (SlF.one hw).2]; rfl)
    simp (decide := true) only [FT.get_set, FT.setL, faS_ptr, nilS_ptr, nilS_func, nilS_yield, pickS_bool, ldS_ptr, list_cells, list_ro, partS_none, lenSl_of, lenStr_of, cvInt_of, aminmax_max, aminmax_min, abin_add, abin_sub, abin_mul, abin_eql, abin_neq, abin_lss, abin_leq, abin_gtr, abin_geq, aunary_not, aextract, Option.some.injEq, Prod.mk.injEq, Value.bool.injEq, exists_eq_left', exists_and_left, and_assoc, decide_eq_true_eq, decide_eq_false_iff_not, if_true, if_false, Nat.zero_add, Nat.add_zero, Option.bind_some, true_and, and_true, forall_const, true_implies, Bool.not_eq_true, Bool.false_eq_true, false_implies, ite_self, Nat.mul_one, List.getElem?_cons_zero, List.getElem?_cons_succ, ptrTo]
    refine ⟨S4, u1, ?_⟩
    have f4 : Old S2 S4 := ⟨by rw [u3, fresh_n]; omega, fun y hy => by rw [u4 y (by omega), fresh_old _ _ _ (by omega)]⟩
    have hgb4 := (f4.2 S.n (by omega)).trans hgb2
    have hn4 := f4.1
    refine m_seq (m_reg ?_)
    rw [reg11_2]
    simp (decide := true) only [FT.get_set, FT.setL, faS_ptr, nilS_ptr, nilS_func, nilS_yield, pickS_bool, ldS_ptr, list_cells, list_ro, partS_none, lenSl_of, lenStr_of, cvInt_of, aminmax_max, aminmax_min, abin_add, abin_sub, abin_mul, abin_eql, abin_neq, abin_lss, abin_leq, abin_gtr, abin_geq, aunary_not, aextract, Option.some.injEq, Prod.mk.injEq, Value.bool.injEq, exists_eq_left', exists_and_left, and_assoc, decide_eq_true_eq, decide_eq_false_iff_not, if_true, if_false, Nat.zero_add, Nat.add_zero, Option.bind_some, true_and, and_true, forall_const, true_implies, Bool.not_eq_true, Bool.false_eq_true, false_implies, ite_self, Nat.mul_one, ]
    refine m_cond (t := false) (by simp [evalT, FT.get_set, FT.setL, faS_ptr, nilS_ptr, nilS_func, nilS_yield, pickS_bool, ldS_ptr, list_cells, list_ro, partS_none, lenSl_of, lenStr_of, cvInt_of, aminmax_max, aminmax_min, abin_add, abin_sub, abin_mul, abin_eql, abin_neq, abin_lss, abin_leq, abin_gtr, abin_geq, aunary_not, aextract]) (fun h => by cases h) (fun _ => m_skip ?_)
    simp only
    refine m_wf fun wf4 => m_seq (m_reg ?_)
    rw [reg11_4]
    simp (decide := true) only [FT.get_set, FT.setL, faS_ptr, nilS_ptr, nilS_func, nilS_yield, pickS_bool, ldS_ptr, list_cells, list_ro, partS_none, lenSl_of, lenStr_of, cvInt_of, aminmax_max, aminmax_min, abin_add, abin_sub, abin_mul, abin_eql, abin_neq, abin_lss, abin_leq, abin_gtr, abin_geq, aunary_not, aextract, Option.some.injEq, Prod.mk.injEq, Value.bool.injEq, exists_eq_left', exists_and_left, and_assoc, decide_eq_true_eq, decide_eq_false_iff_not, if_true, if_false, Nat.zero_add, Nat.add_zero, Option.bind_some, true_and, and_true, forall_const, true_implies, Bool.not_eq_true, Bool.false_eq_true, false_implies, ite_self, Nat.mul_one, list_of hgb4, List.getElem?_cons_zero, List.getElem?_cons_succ, hg.len, msS_of (n := bs.length) S4 1 1 [.bool false] .i64 .i64 (by omega) (by omega), ptrTo]
    have hz : zeros [.bool false] bs.length = (List.replicate bs.length false).map .bool := by rw [zeros_one, List.map_replicate]
    rw [hz]
    obtain ⟨S3, s1, s2, s3, s4⟩ := st_one (off := 0) (v := .slice (some ⟨S4.n, 0, none⟩) bs.length bs.length) (fresh_at (S4.fresh ((List.replicate bs.length false).map .bool) 1) [.slice none 0 0] 0) (by decide) rfl rfl
    have hxb : S3.m (S4.n + 1) = some (.cells [.slice (some ⟨S4.n, 0, none⟩) bs.length bs.length] 0) := s2
    have hn3 : S3.n = S4.n + 2 := s3
    refine ⟨S3, s1, ?_⟩
    have f3 : Old S4 S3 := ⟨by omega, fun y hy => by rw [s4 y (by simp only [fresh_n]; omega), fresh_old _ _ _ (by simp only [fresh_n]; omega), fresh_old _ _ _ (by omega)]⟩
    have hob : S3.m S4.n = some (.cells ((List.replicate bs.length false).map .bool) 1) := by rw [s4 _ (by simp only [fresh_n]; omega), fresh_old _ _ _ (by simp only [fresh_n]; omega), fresh_at]
    have hfb3 := (f3.2 S.n (by omega)).trans hgb4
    refine m_wf fun wf3 => m_seq (m_seq (m_reg ?_))
    rw [reg11_5]
    simp (decide := true) only [FT.get_set, FT.setL, faS_ptr, nilS_ptr, nilS_func, nilS_yield, pickS_bool, ldS_ptr, list_cells, list_ro, partS_none, lenSl_of, lenStr_of, cvInt_of, aminmax_max, aminmax_min, abin_add, abin_sub, abin_mul, abin_eql, abin_neq, abin_lss, abin_leq, abin_gtr, abin_geq, aunary_not, aextract, Option.some.injEq, Prod.mk.injEq, Value.bool.injEq, exists_eq_left', exists_and_left, and_assoc, decide_eq_true_eq, decide_eq_false_iff_not, if_true, if_false, Nat.zero_add, Nat.add_zero, Option.bind_some, true_and, and_true, forall_const, true_implies, Bool.not_eq_true, Bool.false_eq_true, false_implies, ite_self, Nat.mul_one, list_of hfb3, List.getElem?_cons_zero, List.getElem?_cons_succ, hg.len]
    refine walk25 ?_
    have wf5 := wf_fresh' (wf_fresh' wf3 [.int .i64 bs.length] 0) [.func (.func 26) #[] #[.pointer (some ⟨S.n, 0, none⟩)]] 0
    have f5 : ∀ y, y < S3.n → ((S3.fresh [.int .i64 bs.length] 0).fresh [.func (.func 26) #[] #[.pointer (some ⟨S.n, 0, none⟩)]] 0).m y = S3.m y := fun y hy => by
      rw [fresh_old _ _ _ (by rw [fresh_n]; omega), fresh_old _ _ _ (by omega)]
    have hall : Old S ((S3.fresh [.int .i64 bs.length] 0).fresh [.func (.func 26) #[] #[.pointer (some ⟨S.n, 0, none⟩)]] 0) := (((f1.trans hold).trans f4).trans f3).trans ⟨by simp only [fresh_n]; omega, f5⟩
    refine MWp.mono (range11 (S0 := S) (fb := S.n) (ob := S4.n) (xb := S4.n + 1) (b1 := S3.n) (rr := rr) (ov := gv) hok wf5 ?_ ?_ ?_ ?_ ?_ hg wf ?_ ?_ hall (by omega) ⟨by omega, by omega, by omega, by omega⟩) ?_
    · simp [FT.get_set, FT.setL, faS_ptr, nilS_ptr, nilS_func, nilS_yield, pickS_bool, ldS_ptr, list_cells, list_ro, partS_none, lenSl_of, lenStr_of, cvInt_of, aminmax_max, aminmax_min, abin_add, abin_sub, abin_mul, abin_eql, abin_neq, abin_lss, abin_leq, abin_gtr, abin_geq, aunary_not, aextract]
    · simp [FT.get_set, FT.setL, faS_ptr, nilS_ptr, nilS_func, nilS_yield, pickS_bool, ldS_ptr, list_cells, list_ro, partS_none, lenSl_of, lenStr_of, cvInt_of, aminmax_max, aminmax_min, abin_add, abin_sub, abin_mul, abin_eql, abin_neq, abin_lss, abin_leq, abin_gtr, abin_geq, aunary_not, aextract, fresh_n]
    · rw [fresh_old _ _ _ (by rw [fresh_n]; omega), fresh_at]
    · exact fresh_at (S3.fresh [.int .i64 bs.length] 0) _ 0
    · rw [f5 _ (by omega)]; exact hfb3
    · rw [f5 _ (by omega)]; exact hob
    · rw [f5 _ (by omega)]; exact hxb
    · rintro _ T5 S5 ⟨rfl, rfl, ms, hv, g1, g2, g3⟩
      simp only
      refine m_seq (m_reg ?_)
      rw [reg11_8]
      simp (decide := true) only [FT.get_set, FT.setL, faS_ptr, nilS_ptr, nilS_func, nilS_yield, pickS_bool, ldS_ptr, list_cells, list_ro, partS_none, lenSl_of, lenStr_of, cvInt_of, aminmax_max, aminmax_min, abin_add, abin_sub, abin_mul, abin_eql, abin_neq, abin_lss, abin_leq, abin_gtr, abin_geq, aunary_not, aextract, Option.some.injEq, Prod.mk.injEq, Value.bool.injEq, exists_eq_left', exists_and_left, and_assoc, decide_eq_true_eq, decide_eq_false_iff_not, if_true, if_false, Nat.zero_add, Nat.add_zero, Option.bind_some, true_and, and_true, forall_const, true_implies, Bool.not_eq_true, Bool.false_eq_true, false_implies, ite_self, Nat.mul_one, fresh_n, list_of g2, List.getElem?_cons_zero]
      refine m_ret ?_
      simp [resM, FT.get_set, FT.setL, faS_ptr, nilS_ptr, nilS_func, nilS_yield, pickS_bool, ldS_ptr, list_cells, list_ro, partS_none, lenSl_of, lenStr_of, cvInt_of, aminmax_max, aminmax_min, abin_add, abin_sub, abin_mul, abin_eql, abin_neq, abin_lss, abin_leq, abin_gtr, abin_geq, aunary_not, aextract, oneOrTuple]
      exact ⟨g3, .inr ⟨hok, ms, S4.n, hv, by omega, g1, rfl⟩⟩

end Go.Proofs.Ytgkdmnfmfcdfmaa

