/-
  The walk through the code of blocks and of what is reached, part L21: what its functions do to memory. Nothing is asked.
-/
import Derived.Test.YtgkdmnfmfcdfmaaLa20
set_option linter.all false
namespace Go.Proofs.Ytgkdmnfmfcdfmaa
open Go Go.Ag
set_option linter.unusedVariables false
set_option maxRecDepth 100000

def Starts (Sf : MS) (bs : List Blk) (sv : Value) : Prop := ∀ j : Nat, j < bs.length → ∃ a o, iaSS 1 sv (.int .i64 (j : Int)) = some (.pointer (some ⟨a, o, none⟩)) ∧ ∀ S' : MS, (∀ y, y < Sf.n → S'.m y = Sf.m y) → ldS none S' (.pointer (some ⟨a, o, none⟩)) = some (.int .i64 (pos bs j))

def PE10 (Sf : MS) (n : Nat) (rr : Int) (sv : Value) (rb gb : Nat) (l : List Op5) (i : Nat) (x : AExit) (T' : FT) (S' : MS) : Prop := x = .normal ∧ T'.get 8 = .int .i64 i ∧ ∃ w', FH10 Sf n rr sv rb gb w' l T' S'

theorem ends10 {Sf S : MS} {n rb gb bx i : Nat} {rr : Int} {sv w : Value} {l : List Op5} {bs : List Blk} {b : Blk} {T : FT} (h : FH10 Sf n rr sv rb gb w l T S) (hst : Starts Sf bs sv) (he : endOk bs.length b) (hi : i < 100000) (hl : l.length ≤ 1000000)
    (hbx1 : Sf.n < bx) (hbx : S.m bx = some (.cells (blkL b) 0)) (hav : Av w bx) (t8 : T.get 8 = .int .i64 i) (t9 : T.get 9 = .pointer (some ⟨bx, 0, none⟩)) (t56 : T.get 56 = .int .i64 b.e) :
    MWp Try.prog O 115 (.block 4 (.seq (.region 18 (ro 10 18) false) (.cond (.tmp 65) (.seq (.region 19 (ro 10 19) false) (.cond (.tmp 71) (.region 20 (ro 10 20) true) .skip)) (.seq (.region 21 (ro 10 21) false) (.cond (.tmp 83) (.seq (.region 22 (ro 10 22) true) (.seq (.region 23 (ro 10 23) false) (.cond (.tmp 102) (.region 24 (ro 10 24) true) .skip))) (.region 17 (ro 10 17) false)))))) T S
      (PE10 Sf n rr sv rb gb (l ++ (tailL b i).map (fixOp bs)) i) := by
  have hwi : IntKind.i64.wrap ((i : Int) + 1) = ((i + 1 : Nat) : Int) := by rw [wrap_i64 (by omega) (by omega)]; rfl
  refine m_wf fun wf => ?_
  have hbn := wf _ _ hbx
  refine m_block (m_seq (m_reg ?_))
  rw [reg10_18]
  simp (decide := true) only [FT.get_set, FT.setL, faS_ptr, nilS_ptr, nilS_func, nilS_yield, pickS_bool, ldS_ptr, list_cells, list_ro, partS_none, lenSl_of, lenStr_of, cvInt_of, aminmax_max, aminmax_min, abin_add, abin_sub, abin_mul, abin_eql, abin_neq, abin_lss, abin_leq, abin_gtr, abin_geq, aunary_not, aextract, Option.some.injEq, Prod.mk.injEq, Value.bool.injEq, exists_eq_left', exists_and_left, and_assoc, decide_eq_true_eq, decide_eq_false_iff_not, if_true, if_false, Nat.zero_add, Nat.add_zero, Option.bind_some, true_and, and_true, forall_const, true_implies, Bool.not_eq_true, Bool.false_eq_true, false_implies, ite_self, Nat.mul_one, t56]
  have nil : ∀ (T' : FT) (S' : MS) w', FH10 Sf n rr sv rb gb w' (l ++ (tailL b i).map (fixOp bs)) T' S' → T'.get 8 = .int .i64 i → PE10 Sf n rr sv rb gb (l ++ (tailL b i).map (fixOp bs)) i .normal T' S' := fun T' S' w' h1 h2 => ⟨rfl, h2, w', h1⟩
  rcases he with ⟨h38, ht, _⟩ | ⟨h39, ht, hll, _⟩ | ⟨h40, _⟩
  · have e38 : (b.e == 38) = true := by simp [h38]
    obtain ⟨tt, htt⟩ := Int.eq_ofNat_of_zero_le ht.1
    have htl : tt < bs.length := by have := ht.2; omega
    refine m_cond (t := true) (by simp [evalT, FT.get_set, FT.setL, faS_ptr, nilS_ptr, nilS_func, nilS_yield, pickS_bool, ldS_ptr, list_cells, list_ro, partS_none, lenSl_of, lenStr_of, cvInt_of, aminmax_max, aminmax_min, abin_add, abin_sub, abin_mul, abin_eql, abin_neq, abin_lss, abin_leq, abin_gtr, abin_geq, aunary_not, aextract, e38]) (fun _ => ?_) (fun h => by cases h)
    refine m_seq (m_reg ?_)
    rw [reg10_19]
    simp (decide := true) only [FT.get_set, FT.setL, faS_ptr, nilS_ptr, nilS_func, nilS_yield, pickS_bool, ldS_ptr, list_cells, list_ro, partS_none, lenSl_of, lenStr_of, cvInt_of, aminmax_max, aminmax_min, abin_add, abin_sub, abin_mul, abin_eql, abin_neq, abin_lss, abin_leq, abin_gtr, abin_geq, aunary_not, aextract, Option.some.injEq, Prod.mk.injEq, Value.bool.injEq, exists_eq_left', exists_and_left, and_assoc, decide_eq_true_eq, decide_eq_false_iff_not, if_true, if_false, Nat.zero_add, Nat.add_zero, Option.bind_some, true_and, and_true, forall_const, true_implies, Bool.not_eq_true, Bool.false_eq_true, false_implies, ite_self, Nat.mul_one, t8, t9, list_of hbx, bl3, hwi]
    by_cases ht1 : b.t = ((i + 1 : Nat) : Int)
    · have e : tailL b i = [] := by unfold tailL; rw [if_neg (by omega), if_neg (by omega), if_pos ht1]
      refine m_cond (t := false) (by simp [evalT, FT.get_set, FT.setL, faS_ptr, nilS_ptr, nilS_func, nilS_yield, pickS_bool, ldS_ptr, list_cells, list_ro, partS_none, lenSl_of, lenStr_of, cvInt_of, aminmax_max, aminmax_min, abin_add, abin_sub, abin_mul, abin_eql, abin_neq, abin_lss, abin_leq, abin_gtr, abin_geq, aunary_not, aextract]; omega) (fun h => by cases h) (fun _ => m_skip ?_)
      simp only
      refine nil _ _ w ?_ (by simp [FT.get_set, FT.setL, faS_ptr, nilS_ptr, nilS_func, nilS_yield, pickS_bool, ldS_ptr, list_cells, list_ro, partS_none, lenSl_of, lenStr_of, cvInt_of, aminmax_max, aminmax_min, abin_add, abin_sub, abin_mul, abin_eql, abin_neq, abin_lss, abin_leq, abin_gtr, abin_geq, aunary_not, aextract, t8])
      rw [e, List.map_nil, List.append_nil]
      exact h.keep wf (fun _ _ => rfl) (Nat.le_refl _) (by simp [FT.get_set, FT.setL, faS_ptr, nilS_ptr, nilS_func, nilS_yield, pickS_bool, ldS_ptr, list_cells, list_ro, partS_none, lenSl_of, lenStr_of, cvInt_of, aminmax_max, aminmax_min, abin_add, abin_sub, abin_mul, abin_eql, abin_neq, abin_lss, abin_leq, abin_gtr, abin_geq, aunary_not, aextract]) (by simp [FT.get_set, FT.setL, faS_ptr, nilS_ptr, nilS_func, nilS_yield, pickS_bool, ldS_ptr, list_cells, list_ro, partS_none, lenSl_of, lenStr_of, cvInt_of, aminmax_max, aminmax_min, abin_add, abin_sub, abin_mul, abin_eql, abin_neq, abin_lss, abin_leq, abin_gtr, abin_geq, aunary_not, aextract]) (by simp [FT.get_set, FT.setL, faS_ptr, nilS_ptr, nilS_func, nilS_yield, pickS_bool, ldS_ptr, list_cells, list_ro, partS_none, lenSl_of, lenStr_of, cvInt_of, aminmax_max, aminmax_min, abin_add, abin_sub, abin_mul, abin_eql, abin_neq, abin_lss, abin_leq, abin_gtr, abin_geq, aunary_not, aextract]) (by simp [FT.get_set, FT.setL, faS_ptr, nilS_ptr, nilS_func, nilS_yield, pickS_bool, ldS_ptr, list_cells, list_ro, partS_none, lenSl_of, lenStr_of, cvInt_of, aminmax_max, aminmax_min, abin_add, abin_sub, abin_mul, abin_eql, abin_neq, abin_lss, abin_leq, abin_gtr, abin_geq, aunary_not, aextract])
    · have e : (tailL b i).map (fixOp bs) = [⟨38, 0, 0, 0, (pos bs tt : Nat)⟩] := by unfold tailL; rw [if_neg (by omega), if_neg (by omega), if_neg ht1]; simp [fixOp, htt]
      obtain ⟨a, o, q1, q2⟩ := hst tt htl
      obtain ⟨w', S3, S4, a1, a2, a3, a4, a5, a6⟩ := h.push1 wf ⟨38, 0, 0, 0, (pos bs tt : Nat)⟩ (by omega)
      refine m_cond (t := true) (by simp [evalT, FT.get_set, FT.setL, faS_ptr, nilS_ptr, nilS_func, nilS_yield, pickS_bool, ldS_ptr, list_cells, list_ro, partS_none, lenSl_of, lenStr_of, cvInt_of, aminmax_max, aminmax_min, abin_add, abin_sub, abin_mul, abin_eql, abin_neq, abin_lss, abin_leq, abin_gtr, abin_geq, aunary_not, aextract]; omega) (fun _ => m_draw ?_) (fun h => by cases h)
      rw [reg10_20]
      have t4 := h.t4
      simp (decide := true) only [FT.get_set, FT.setL, faS_ptr, nilS_ptr, nilS_func, nilS_yield, pickS_bool, ldS_ptr, list_cells, list_ro, partS_none, lenSl_of, lenStr_of, cvInt_of, aminmax_max, aminmax_min, abin_add, abin_sub, abin_mul, abin_eql, abin_neq, abin_lss, abin_leq, abin_gtr, abin_geq, aunary_not, aextract, Option.some.injEq, Prod.mk.injEq, Value.bool.injEq, exists_eq_left', exists_and_left, and_assoc, decide_eq_true_eq, decide_eq_false_iff_not, if_true, if_false, Nat.zero_add, Nat.add_zero, Option.bind_some, true_and, and_true, forall_const, true_implies, Bool.not_eq_true, Bool.false_eq_true, false_implies, ite_self, Nat.mul_one, h.t7, h.t4, t9, list_of h.fbc, list_of hbx, bl3, htt, q1, q2 S h.old, bd_jump, bs_op, List.getElem?_cons_zero, List.getElem?_cons_succ, a1]
      refine ⟨S4, by simpa using a2, ?_⟩
      refine nil _ _ w' ?_ (by simp [FT.get_set, FT.setL, faS_ptr, nilS_ptr, nilS_func, nilS_yield, pickS_bool, ldS_ptr, list_cells, list_ro, partS_none, lenSl_of, lenStr_of, cvInt_of, aminmax_max, aminmax_min, abin_add, abin_sub, abin_mul, abin_eql, abin_neq, abin_lss, abin_leq, abin_gtr, abin_geq, aunary_not, aextract, t8])
      rw [e]
      exact a4 _ (by simp [FT.get_set, FT.setL, faS_ptr, nilS_ptr, nilS_func, nilS_yield, pickS_bool, ldS_ptr, list_cells, list_ro, partS_none, lenSl_of, lenStr_of, cvInt_of, aminmax_max, aminmax_min, abin_add, abin_sub, abin_mul, abin_eql, abin_neq, abin_lss, abin_leq, abin_gtr, abin_geq, aunary_not, aextract]) (by simp [FT.get_set, FT.setL, faS_ptr, nilS_ptr, nilS_func, nilS_yield, pickS_bool, ldS_ptr, list_cells, list_ro, partS_none, lenSl_of, lenStr_of, cvInt_of, aminmax_max, aminmax_min, abin_add, abin_sub, abin_mul, abin_eql, abin_neq, abin_lss, abin_leq, abin_gtr, abin_geq, aunary_not, aextract]) (by simp [FT.get_set, FT.setL, faS_ptr, nilS_ptr, nilS_func, nilS_yield, pickS_bool, ldS_ptr, list_cells, list_ro, partS_none, lenSl_of, lenStr_of, cvInt_of, aminmax_max, aminmax_min, abin_add, abin_sub, abin_mul, abin_eql, abin_neq, abin_lss, abin_leq, abin_gtr, abin_geq, aunary_not, aextract]) (by simp [FT.get_set, FT.setL, faS_ptr, nilS_ptr, nilS_func, nilS_yield, pickS_bool, ldS_ptr, list_cells, list_ro, partS_none, lenSl_of, lenStr_of, cvInt_of, aminmax_max, aminmax_min, abin_add, abin_sub, abin_mul, abin_eql, abin_neq, abin_lss, abin_leq, abin_gtr, abin_geq, aunary_not, aextract])
  · have e38 : (b.e == 38) = false := by simp [h39]
    have e39 : (b.e == 39) = true := by simp [h39]
    obtain ⟨tt, htt⟩ := Int.eq_ofNat_of_zero_le ht.1
    have htl : tt < bs.length := by have := ht.2; omega
    obtain ⟨ll, hll0⟩ := Int.eq_ofNat_of_zero_le hll.1
    have hltl : ll < bs.length := by have := hll.2; omega
    refine m_cond (t := false) (by simp [evalT, FT.get_set, FT.setL, faS_ptr, nilS_ptr, nilS_func, nilS_yield, pickS_bool, ldS_ptr, list_cells, list_ro, partS_none, lenSl_of, lenStr_of, cvInt_of, aminmax_max, aminmax_min, abin_add, abin_sub, abin_mul, abin_eql, abin_neq, abin_lss, abin_leq, abin_gtr, abin_geq, aunary_not, aextract, e38]) (fun h => by cases h) (fun _ => ?_)
    refine m_seq (m_reg ?_)
    rw [reg10_21]
    simp (decide := true) only [FT.get_set, FT.setL, faS_ptr, nilS_ptr, nilS_func, nilS_yield, pickS_bool, ldS_ptr, list_cells, list_ro, partS_none, lenSl_of, lenStr_of, cvInt_of, aminmax_max, aminmax_min, abin_add, abin_sub, abin_mul, abin_eql, abin_neq, abin_lss, abin_leq, abin_gtr, abin_geq, aunary_not, aextract, Option.some.injEq, Prod.mk.injEq, Value.bool.injEq, exists_eq_left', exists_and_left, and_assoc, decide_eq_true_eq, decide_eq_false_iff_not, if_true, if_false, Nat.zero_add, Nat.add_zero, Option.bind_some, true_and, and_true, forall_const, true_implies, Bool.not_eq_true, Bool.false_eq_true, false_implies, ite_self, Nat.mul_one, t56]
    obtain ⟨a, o, q1, q2⟩ := hst tt htl
    obtain ⟨w', S3, S4, a1, a2, a3, a4, a5, a6⟩ := h.push1 wf ⟨39, 0, b.a, 0, (pos bs tt : Nat)⟩ (by omega)
    refine m_cond (t := true) (by simp [evalT, FT.get_set, FT.setL, faS_ptr, nilS_ptr, nilS_func, nilS_yield, pickS_bool, ldS_ptr, list_cells, list_ro, partS_none, lenSl_of, lenStr_of, cvInt_of, aminmax_max, aminmax_min, abin_add, abin_sub, abin_mul, abin_eql, abin_neq, abin_lss, abin_leq, abin_gtr, abin_geq, aunary_not, aextract, e39]) (fun _ => ?_) (fun h => by cases h)
    refine m_seq (m_draw ?_)
    rw [reg10_22]
    simp (decide := true) only [FT.get_set, FT.setL, faS_ptr, nilS_ptr, nilS_func, nilS_yield, pickS_bool, ldS_ptr, list_cells, list_ro, partS_none, lenSl_of, lenStr_of, cvInt_of, aminmax_max, aminmax_min, abin_add, abin_sub, abin_mul, abin_eql, abin_neq, abin_lss, abin_leq, abin_gtr, abin_geq, aunary_not, aextract, Option.some.injEq, Prod.mk.injEq, Value.bool.injEq, exists_eq_left', exists_and_left, and_assoc, decide_eq_true_eq, decide_eq_false_iff_not, if_true, if_false, Nat.zero_add, Nat.add_zero, Option.bind_some, true_and, and_true, forall_const, true_implies, Bool.not_eq_true, Bool.false_eq_true, false_implies, ite_self, Nat.mul_one, h.t7, h.t4, t9, list_of h.fbc, list_of hbx, bl2, bl3, htt, q1, q2 S h.old, bd_unless, bs_op, List.getElem?_cons_zero, List.getElem?_cons_succ, a1]
    refine ⟨S4, by simpa using a2, ?_⟩
    refine m_wf fun wf4 => m_seq (m_reg ?_)
    rw [reg10_23]
    have hbx4 := (a5 bx hbx1 hbn hav).trans hbx
    simp (decide := true) only [FT.get_set, FT.setL, faS_ptr, nilS_ptr, nilS_func, nilS_yield, pickS_bool, ldS_ptr, list_cells, list_ro, partS_none, lenSl_of, lenStr_of, cvInt_of, aminmax_max, aminmax_min, abin_add, abin_sub, abin_mul, abin_eql, abin_neq, abin_lss, abin_leq, abin_gtr, abin_geq, aunary_not, aextract, Option.some.injEq, Prod.mk.injEq, Value.bool.injEq, exists_eq_left', exists_and_left, and_assoc, decide_eq_true_eq, decide_eq_false_iff_not, if_true, if_false, Nat.zero_add, Nat.add_zero, Option.bind_some, true_and, and_true, forall_const, true_implies, Bool.not_eq_true, Bool.false_eq_true, false_implies, ite_self, Nat.mul_one, t8, t9, list_of hbx4, bl4, hwi]
    by_cases ht1 : b.l = ((i + 1 : Nat) : Int)
    · have e : (tailL b i).map (fixOp bs) = [⟨39, 0, b.a, 0, (pos bs tt : Nat)⟩] := by unfold tailL; rw [if_neg (by omega), if_pos h39, if_pos ht1]; simp [fixOp, htt]
      refine m_cond (t := false) (by simp [evalT, FT.get_set, FT.setL, faS_ptr, nilS_ptr, nilS_func, nilS_yield, pickS_bool, ldS_ptr, list_cells, list_ro, partS_none, lenSl_of, lenStr_of, cvInt_of, aminmax_max, aminmax_min, abin_add, abin_sub, abin_mul, abin_eql, abin_neq, abin_lss, abin_leq, abin_gtr, abin_geq, aunary_not, aextract]; omega) (fun h => by cases h) (fun _ => m_skip ?_)
      simp only
      refine nil _ _ w' ?_ (by simp [FT.get_set, FT.setL, faS_ptr, nilS_ptr, nilS_func, nilS_yield, pickS_bool, ldS_ptr, list_cells, list_ro, partS_none, lenSl_of, lenStr_of, cvInt_of, aminmax_max, aminmax_min, abin_add, abin_sub, abin_mul, abin_eql, abin_neq, abin_lss, abin_leq, abin_gtr, abin_geq, aunary_not, aextract, t8])
      rw [e]
      exact a4 _ (by simp [FT.get_set, FT.setL, faS_ptr, nilS_ptr, nilS_func, nilS_yield, pickS_bool, ldS_ptr, list_cells, list_ro, partS_none, lenSl_of, lenStr_of, cvInt_of, aminmax_max, aminmax_min, abin_add, abin_sub, abin_mul, abin_eql, abin_neq, abin_lss, abin_leq, abin_gtr, abin_geq, aunary_not, aextract]) (by simp [FT.get_set, FT.setL, faS_ptr, nilS_ptr, nilS_func, nilS_yield, pickS_bool, ldS_ptr, list_cells, list_ro, partS_none, lenSl_of, lenStr_of, cvInt_of, aminmax_max, aminmax_min, abin_add, abin_sub, abin_mul, abin_eql, abin_neq, abin_lss, abin_leq, abin_gtr, abin_geq, aunary_not, aextract]) (by simp [FT.get_set, FT.setL, faS_ptr, nilS_ptr, nilS_func, nilS_yield, pickS_bool, ldS_ptr, list_cells, list_ro, partS_none, lenSl_of, lenStr_of, cvInt_of, aminmax_max, aminmax_min, abin_add, abin_sub, abin_mul, abin_eql, abin_neq, abin_lss, abin_leq, abin_gtr, abin_geq, aunary_not, aextract]) (by simp [FT.get_set, FT.setL, faS_ptr, nilS_ptr, nilS_func, nilS_yield, pickS_bool, ldS_ptr, list_cells, list_ro, partS_none, lenSl_of, lenStr_of, cvInt_of, aminmax_max, aminmax_min, abin_add, abin_sub, abin_mul, abin_eql, abin_neq, abin_lss, abin_leq, abin_gtr, abin_geq, aunary_not, aextract])
    · have e : (tailL b i).map (fixOp bs) = [⟨39, 0, b.a, 0, (pos bs tt : Nat)⟩] ++ [⟨38, 0, 0, 0, (pos bs ll : Nat)⟩] := by unfold tailL; rw [if_neg (by omega), if_pos h39, if_neg ht1]; simp [fixOp, htt, hll0]
      obtain ⟨a', o', q3, q4⟩ := hst ll hltl
      have h4 := a4 T rfl rfl rfl rfl
      obtain ⟨w5, S5, S6, d1, d2, d3, d4, d5, d6⟩ := h4.push1 wf4 ⟨38, 0, 0, 0, (pos bs ll : Nat)⟩ (by simp; omega)
      refine m_cond (t := true) (by simp [evalT, FT.get_set, FT.setL, faS_ptr, nilS_ptr, nilS_func, nilS_yield, pickS_bool, ldS_ptr, list_cells, list_ro, partS_none, lenSl_of, lenStr_of, cvInt_of, aminmax_max, aminmax_min, abin_add, abin_sub, abin_mul, abin_eql, abin_neq, abin_lss, abin_leq, abin_gtr, abin_geq, aunary_not, aextract]; omega) (fun _ => m_draw ?_) (fun h => by cases h)
      rw [reg10_24]
      simp (decide := true) only [FT.get_set, FT.setL, faS_ptr, nilS_ptr, nilS_func, nilS_yield, pickS_bool, ldS_ptr, list_cells, list_ro, partS_none, lenSl_of, lenStr_of, cvInt_of, aminmax_max, aminmax_min, abin_add, abin_sub, abin_mul, abin_eql, abin_neq, abin_lss, abin_leq, abin_gtr, abin_geq, aunary_not, aextract, Option.some.injEq, Prod.mk.injEq, Value.bool.injEq, exists_eq_left', exists_and_left, and_assoc, decide_eq_true_eq, decide_eq_false_iff_not, if_true, if_false, Nat.zero_add, Nat.add_zero, Option.bind_some, true_and, and_true, forall_const, true_implies, Bool.not_eq_true, Bool.false_eq_true, false_implies, ite_self, Nat.mul_one, h.t7, h.t4, t9, list_of h4.fbc, list_of hbx4, bl4, hll0, q3, q4 S4 h4.old, bd_jump, bs_op, List.getElem?_cons_zero, List.getElem?_cons_succ, d1]
      refine ⟨S6, by simpa using d2, ?_⟩
      refine nil _ _ w5 ?_ (by simp [FT.get_set, FT.setL, faS_ptr, nilS_ptr, nilS_func, nilS_yield, pickS_bool, ldS_ptr, list_cells, list_ro, partS_none, lenSl_of, lenStr_of, cvInt_of, aminmax_max, aminmax_min, abin_add, abin_sub, abin_mul, abin_eql, abin_neq, abin_lss, abin_leq, abin_gtr, abin_geq, aunary_not, aextract, t8])
      rw [e, ← List.append_assoc]
      exact d4 _ (by simp [FT.get_set, FT.setL, faS_ptr, nilS_ptr, nilS_func, nilS_yield, pickS_bool, ldS_ptr, list_cells, list_ro, partS_none, lenSl_of, lenStr_of, cvInt_of, aminmax_max, aminmax_min, abin_add, abin_sub, abin_mul, abin_eql, abin_neq, abin_lss, abin_leq, abin_gtr, abin_geq, aunary_not, aextract]) (by simp [FT.get_set, FT.setL, faS_ptr, nilS_ptr, nilS_func, nilS_yield, pickS_bool, ldS_ptr, list_cells, list_ro, partS_none, lenSl_of, lenStr_of, cvInt_of, aminmax_max, aminmax_min, abin_add, abin_sub, abin_mul, abin_eql, abin_neq, abin_lss, abin_leq, abin_gtr, abin_geq, aunary_not, aextract]) (by simp [FT.get_set, FT.setL, faS_ptr, nilS_ptr, nilS_func, nilS_yield, pickS_bool, ldS_ptr, list_cells, list_ro, partS_none, lenSl_of, lenStr_of, cvInt_of, aminmax_max, aminmax_min, abin_add, abin_sub, abin_mul, abin_eql, abin_neq, abin_lss, abin_leq, abin_gtr, abin_geq, aunary_not, aextract]) (by simp [FT.get_set, FT.setL, faS_ptr, nilS_ptr, nilS_func, nilS_yield, pickS_bool, ldS_ptr, list_cells, list_ro, partS_none, lenSl_of, lenStr_of, cvInt_of, aminmax_max, aminmax_min, abin_add, abin_sub, abin_mul, abin_eql, abin_neq, abin_lss, abin_leq, abin_gtr, abin_geq, aunary_not, aextract])
  · have e38 : (b.e == 38) = false := by simp [h40]
    have e39 : (b.e == 39) = false := by simp [h40]
    have e : (tailL b i).map (fixOp bs) = [⟨40, 0, b.a, 0, 0⟩] := by unfold tailL; rw [if_pos h40]; simp [fixOp]
    refine m_cond (t := false) (by simp [evalT, FT.get_set, FT.setL, faS_ptr, nilS_ptr, nilS_func, nilS_yield, pickS_bool, ldS_ptr, list_cells, list_ro, partS_none, lenSl_of, lenStr_of, cvInt_of, aminmax_max, aminmax_min, abin_add, abin_sub, abin_mul, abin_eql, abin_neq, abin_lss, abin_leq, abin_gtr, abin_geq, aunary_not, aextract, e38]) (fun h => by cases h) (fun _ => ?_)
    refine m_seq (m_reg ?_)
    rw [reg10_21]
    simp (decide := true) only [FT.get_set, FT.setL, faS_ptr, nilS_ptr, nilS_func, nilS_yield, pickS_bool, ldS_ptr, list_cells, list_ro, partS_none, lenSl_of, lenStr_of, cvInt_of, aminmax_max, aminmax_min, abin_add, abin_sub, abin_mul, abin_eql, abin_neq, abin_lss, abin_leq, abin_gtr, abin_geq, aunary_not, aextract, Option.some.injEq, Prod.mk.injEq, Value.bool.injEq, exists_eq_left', exists_and_left, and_assoc, decide_eq_true_eq, decide_eq_false_iff_not, if_true, if_false, Nat.zero_add, Nat.add_zero, Option.bind_some, true_and, and_true, forall_const, true_implies, Bool.not_eq_true, Bool.false_eq_true, false_implies, ite_self, Nat.mul_one, t56]
    obtain ⟨w', S3, S4, a1, a2, a3, a4, a5, a6⟩ := h.push1 wf ⟨40, 0, b.a, 0, 0⟩ (by omega)
    refine m_cond (t := false) (by simp [evalT, FT.get_set, FT.setL, faS_ptr, nilS_ptr, nilS_func, nilS_yield, pickS_bool, ldS_ptr, list_cells, list_ro, partS_none, lenSl_of, lenStr_of, cvInt_of, aminmax_max, aminmax_min, abin_add, abin_sub, abin_mul, abin_eql, abin_neq, abin_lss, abin_leq, abin_gtr, abin_geq, aunary_not, aextract, e39]) (fun h => by cases h) (fun _ => m_reg ?_)
    rw [reg10_17]
    simp (decide := true) only [FT.get_set, FT.setL, faS_ptr, nilS_ptr, nilS_func, nilS_yield, pickS_bool, ldS_ptr, list_cells, list_ro, partS_none, lenSl_of, lenStr_of, cvInt_of, aminmax_max, aminmax_min, abin_add, abin_sub, abin_mul, abin_eql, abin_neq, abin_lss, abin_leq, abin_gtr, abin_geq, aunary_not, aextract, Option.some.injEq, Prod.mk.injEq, Value.bool.injEq, exists_eq_left', exists_and_left, and_assoc, decide_eq_true_eq, decide_eq_false_iff_not, if_true, if_false, Nat.zero_add, Nat.add_zero, Option.bind_some, true_and, and_true, forall_const, true_implies, Bool.not_eq_true, Bool.false_eq_true, false_implies, ite_self, Nat.mul_one, h.t7, t9, list_of h.fbc, list_of hbx, bl2, bd_ret, bs_op, List.getElem?_cons_zero, List.getElem?_cons_succ, a1]
    refine ⟨S4, by simpa using a2, ?_⟩
    refine nil _ _ w' ?_ (by simp [FT.get_set, FT.setL, faS_ptr, nilS_ptr, nilS_func, nilS_yield, pickS_bool, ldS_ptr, list_cells, list_ro, partS_none, lenSl_of, lenStr_of, cvInt_of, aminmax_max, aminmax_min, abin_add, abin_sub, abin_mul, abin_eql, abin_neq, abin_lss, abin_leq, abin_gtr, abin_geq, aunary_not, aextract, t8])
    rw [e]
    exact a4 _ (by simp [FT.get_set, FT.setL, faS_ptr, nilS_ptr, nilS_func, nilS_yield, pickS_bool, ldS_ptr, list_cells, list_ro, partS_none, lenSl_of, lenStr_of, cvInt_of, aminmax_max, aminmax_min, abin_add, abin_sub, abin_mul, abin_eql, abin_neq, abin_lss, abin_leq, abin_gtr, abin_geq, aunary_not, aextract]) (by simp [FT.get_set, FT.setL, faS_ptr, nilS_ptr, nilS_func, nilS_yield, pickS_bool, ldS_ptr, list_cells, list_ro, partS_none, lenSl_of, lenStr_of, cvInt_of, aminmax_max, aminmax_min, abin_add, abin_sub, abin_mul, abin_eql, abin_neq, abin_lss, abin_leq, abin_gtr, abin_geq, aunary_not, aextract]) (by simp [FT.get_set, FT.setL, faS_ptr, nilS_ptr, nilS_func, nilS_yield, pickS_bool, ldS_ptr, list_cells, list_ro, partS_none, lenSl_of, lenStr_of, cvInt_of, aminmax_max, aminmax_min, abin_add, abin_sub, abin_mul, abin_eql, abin_neq, abin_lss, abin_leq, abin_gtr, abin_geq, aunary_not, aextract]) (by simp [FT.get_set, FT.setL, faS_ptr, nilS_ptr, nilS_func, nilS_yield, pickS_bool, ldS_ptr, list_cells, list_ro, partS_none, lenSl_of, lenStr_of, cvInt_of, aminmax_max, aminmax_min, abin_add, abin_sub, abin_mul, abin_eql, abin_neq, abin_lss, abin_leq, abin_gtr, abin_geq, aunary_not, aextract])

def FI10 (Sf : MS) (bs : List Blk) (rr : Int) (sv : Value) (rb gb : Nat) (m : Nat) (T : FT) (S : MS) : Prop :=
  ∃ (k : Nat) (w : Value), k + m = bs.length ∧ FH10 Sf bs.length rr sv rb gb w (allOps bs k) T S ∧ T.get 8 = .int .i64 k

theorem second10 {S0 Sf S : MS} {bs : List Blk} {rr : Int} {gv sv : Value} {rb gb : Nat} {T : FT} (hok : okG bs) (hg : Blks S0 gv bs) (wf0 : S0.WF) (hS0 : Old S0 Sf) (hst : Starts Sf bs sv) (hp : pos bs bs.length ≤ 1000000) (hgbn : gb < Sf.n) (hgb : Sf.m gb = some (.cells [.int .i64 rr, gv] 0)) (hs : FI10 Sf bs rr sv rb gb bs.length T S) :
    MWp Try.prog O 115 (.block 2 (.loop (.seq (.seq (.region 12 (ro 10 12) false) (.cond (.tmp 41) .skip (.exit 2))) (.seq (.block 3 (.seq (.region 14 (ro 10 14) false) (.seq (.region 15 (ro 10 15) false) (.seq (.region 16 (ro 10 16) false) (.block 4 (.seq (.region 18 (ro 10 18) false) (.cond (.tmp 65) (.seq (.region 19 (ro 10 19) false) (.cond (.tmp 71) (.region 20 (ro 10 20) true) .skip)) (.seq (.region 21 (ro 10 21) false) (.cond (.tmp 83) (.seq (.region 22 (ro 10 22) true) (.seq (.region 23 (ro 10 23) false) (.cond (.tmp 102) (.region 24 (ro 10 24) true) .skip))) (.region 17 (ro 10 17) false)))))))))) (.region 13 (ro 10 13) false))))) T S
      (fun x T' S' => x = .normal ∧ ∃ w, FH10 Sf bs.length rr sv rb gb w (allOps bs bs.length) T' S') := by
  have hn := hok.2.1
  refine m_block (m_loop (fun m T S' => FI10 Sf bs rr sv rb gb m T S') _ hs ?_)
  clear hs
  rintro m T S1 ⟨k, w, hk, hc, t8⟩
  have c2 := hc.fb2
  have hgb1 := (hc.old gb hgbn).trans hgb
  have hg1 : Blks S1 gv bs := hg.keep wf0 fun y hy => (hc.old y (by have := hS0.1; omega)).trans (hS0.2 y hy)
  refine m_wf fun wf1 => m_seq (m_seq (m_reg ?_))
  rw [reg10_12]
  simp (decide := true) only [FT.get_set, FT.setL, faS_ptr, nilS_ptr, nilS_func, nilS_yield, pickS_bool, ldS_ptr, list_cells, list_ro, partS_none, lenSl_of, lenStr_of, cvInt_of, aminmax_max, aminmax_min, abin_add, abin_sub, abin_mul, abin_eql, abin_neq, abin_lss, abin_leq, abin_gtr, abin_geq, aunary_not, aextract, Option.some.injEq, Prod.mk.injEq, Value.bool.injEq, exists_eq_left', exists_and_left, and_assoc, decide_eq_true_eq, decide_eq_false_iff_not, if_true, if_false, Nat.zero_add, Nat.add_zero, Option.bind_some, true_and, and_true, forall_const, true_implies, Bool.not_eq_true, Bool.false_eq_true, false_implies, ite_self, Nat.mul_one, hc.t1, t8, list_of hgb1, List.getElem?_cons_zero, List.getElem?_cons_succ, hg.len]
  refine m_cond (t := decide ((k : Int) < bs.length)) (by simp [evalT, FT.get_set, FT.setL, faS_ptr, nilS_ptr, nilS_func, nilS_yield, pickS_bool, ldS_ptr, list_cells, list_ro, partS_none, lenSl_of, lenStr_of, cvInt_of, aminmax_max, aminmax_min, abin_add, abin_sub, abin_mul, abin_eql, abin_neq, abin_lss, abin_leq, abin_gtr, abin_geq, aunary_not, aextract]) (fun hlt => ?_) (fun hlt => ?_)
  · have hlt : k < bs.length := by have := of_decide_eq_true hlt; omega
    refine m_skip ?_
    simp only
    obtain ⟨b, hb⟩ : ∃ b, bs[k]? = some b := ⟨_, List.getElem?_eq_getElem hlt⟩
    obtain ⟨p, hp1, hp2⟩ := hg1.at hb
    have hbm := List.mem_of_getElem? hb
    have hpk : pos bs (k + 1) = pos bs k + bLen b k := pos_succ hb
    have hpk2 : pos bs (k + 1) ≤ pos bs bs.length := pos_mono bs hlt
    have hbl : pos bs k + b.ops.length + (tailL b k).length ≤ 1000000 := by unfold bLen at hpk; omega
    refine m_seq (m_block (m_seq (m_reg ?_)))
    rw [reg10_14]
    simp (decide := true) only [FT.get_set, FT.setL, faS_ptr, nilS_ptr, nilS_func, nilS_yield, pickS_bool, ldS_ptr, list_cells, list_ro, partS_none, lenSl_of, lenStr_of, cvInt_of, aminmax_max, aminmax_min, abin_add, abin_sub, abin_mul, abin_eql, abin_neq, abin_lss, abin_leq, abin_gtr, abin_geq, aunary_not, aextract, Option.some.injEq, Prod.mk.injEq, Value.bool.injEq, exists_eq_left', exists_and_left, and_assoc, decide_eq_true_eq, decide_eq_false_iff_not, if_true, if_false, Nat.zero_add, Nat.add_zero, Option.bind_some, true_and, and_true, forall_const, true_implies, Bool.not_eq_true, Bool.false_eq_true, false_implies, ite_self, Nat.mul_one, hc.t1, t8, list_of hgb1, List.getElem?_cons_zero, List.getElem?_cons_succ, hp1, hp2, ptrTo]
    obtain ⟨S2, s1, s2, s3, s4⟩ := st_all (n := 5) (cs := (blkL b).toArray) (fresh_at S1 [.slice none 0 0, .int .i64 0, .int .i64 0, .int .i64 0, .int .i64 0] 0) rfl rfl (by
      show (blkL b).all oneCell = true
      simp only [blkL, List.all_cons, (hg1.ops b hbm).oneC]; rfl)
    have hs2 : S2.m S1.n = some (.cells (blkL b) 0) := s2
    have hn2 : S2.n = S1.n + 1 := s3
    refine ⟨S2, s1, ?_⟩
    have f2 : ∀ y, y < S1.n → S2.m y = S1.m y := fun y hy => by rw [s4 y (by omega), fresh_old _ _ _ (by omega)]
    refine m_wf fun wf2 => ?_
    have ho2 := (hg1.ops b hbm).keep wf1 f2
    refine m_seq (m_reg ?_)
    rw [reg10_15]
    have hc2 : FH10 Sf bs.length rr sv rb gb w (allOps bs k) T S2 := hc.keep wf1 f2 (by omega) rfl rfl rfl rfl
    have hav : Av w S1.n := hc.w.avN wf1 (Nat.le_refl _)
    obtain ⟨w', S3, S4, a1, a2, a3, a4, a5, a6⟩ := hc2.push (x := b.ov) (new := b.ops) wf2 ho2.lenA (ho2.first (hg1.emp b hbm)) (by rw [all_len]; omega)
    simp (decide := true) only [FT.get_set, FT.setL, faS_ptr, nilS_ptr, nilS_func, nilS_yield, pickS_bool, ldS_ptr, list_cells, list_ro, partS_none, lenSl_of, lenStr_of, cvInt_of, aminmax_max, aminmax_min, abin_add, abin_sub, abin_mul, abin_eql, abin_neq, abin_lss, abin_leq, abin_gtr, abin_geq, aunary_not, aextract, Option.some.injEq, Prod.mk.injEq, Value.bool.injEq, exists_eq_left', exists_and_left, and_assoc, decide_eq_true_eq, decide_eq_false_iff_not, if_true, if_false, Nat.zero_add, Nat.add_zero, Option.bind_some, true_and, and_true, forall_const, true_implies, Bool.not_eq_true, Bool.false_eq_true, false_implies, ite_self, Nat.mul_one, hc.t7, list_of hc2.fbc, list_of hs2, bl0, List.getElem?_cons_zero, List.getElem?_cons_succ, a1]
    refine ⟨S4, by simpa using a2, ?_⟩
    have hbx4 : S4.m S1.n = some (.cells (blkL b) 0) := (a5 S1.n (by omega) (by omega) hav).trans hs2
    have hav4 := a6 S1.n (by omega) hav
    refine m_seq (m_reg ?_)
    rw [reg10_16]
    simp (decide := true) only [FT.get_set, FT.setL, faS_ptr, nilS_ptr, nilS_func, nilS_yield, pickS_bool, ldS_ptr, list_cells, list_ro, partS_none, lenSl_of, lenStr_of, cvInt_of, aminmax_max, aminmax_min, abin_add, abin_sub, abin_mul, abin_eql, abin_neq, abin_lss, abin_leq, abin_gtr, abin_geq, aunary_not, aextract, Option.some.injEq, Prod.mk.injEq, Value.bool.injEq, exists_eq_left', exists_and_left, and_assoc, decide_eq_true_eq, decide_eq_false_iff_not, if_true, if_false, Nat.zero_add, Nat.add_zero, Option.bind_some, true_and, and_true, forall_const, true_implies, Bool.not_eq_true, Bool.false_eq_true, false_implies, ite_self, Nat.mul_one, list_of hbx4, bl1]
    refine MWp.mono (ends10 (bs := bs) (b := b) (i := k) (bx := S1.n) (a4 _ ?_ ?_ ?_ ?_) hst (hok.2.2 b hbm).2 (by omega) (by rw [List.length_append, all_len]; omega) (by omega) hbx4 hav4 ?_ ?_ ?_) ?_
    · simp [FT.get_set, FT.setL, faS_ptr, nilS_ptr, nilS_func, nilS_yield, pickS_bool, ldS_ptr, list_cells, list_ro, partS_none, lenSl_of, lenStr_of, cvInt_of, aminmax_max, aminmax_min, abin_add, abin_sub, abin_mul, abin_eql, abin_neq, abin_lss, abin_leq, abin_gtr, abin_geq, aunary_not, aextract]
    · simp [FT.get_set, FT.setL, faS_ptr, nilS_ptr, nilS_func, nilS_yield, pickS_bool, ldS_ptr, list_cells, list_ro, partS_none, lenSl_of, lenStr_of, cvInt_of, aminmax_max, aminmax_min, abin_add, abin_sub, abin_mul, abin_eql, abin_neq, abin_lss, abin_leq, abin_gtr, abin_geq, aunary_not, aextract]
    · simp [FT.get_set, FT.setL, faS_ptr, nilS_ptr, nilS_func, nilS_yield, pickS_bool, ldS_ptr, list_cells, list_ro, partS_none, lenSl_of, lenStr_of, cvInt_of, aminmax_max, aminmax_min, abin_add, abin_sub, abin_mul, abin_eql, abin_neq, abin_lss, abin_leq, abin_gtr, abin_geq, aunary_not, aextract]
    · simp [FT.get_set, FT.setL, faS_ptr, nilS_ptr, nilS_func, nilS_yield, pickS_bool, ldS_ptr, list_cells, list_ro, partS_none, lenSl_of, lenStr_of, cvInt_of, aminmax_max, aminmax_min, abin_add, abin_sub, abin_mul, abin_eql, abin_neq, abin_lss, abin_leq, abin_gtr, abin_geq, aunary_not, aextract]
    · simp [FT.get_set, FT.setL, faS_ptr, nilS_ptr, nilS_func, nilS_yield, pickS_bool, ldS_ptr, list_cells, list_ro, partS_none, lenSl_of, lenStr_of, cvInt_of, aminmax_max, aminmax_min, abin_add, abin_sub, abin_mul, abin_eql, abin_neq, abin_lss, abin_leq, abin_gtr, abin_geq, aunary_not, aextract, t8]
    · simp [FT.get_set, FT.setL, faS_ptr, nilS_ptr, nilS_func, nilS_yield, pickS_bool, ldS_ptr, list_cells, list_ro, partS_none, lenSl_of, lenStr_of, cvInt_of, aminmax_max, aminmax_min, abin_add, abin_sub, abin_mul, abin_eql, abin_neq, abin_lss, abin_leq, abin_gtr, abin_geq, aunary_not, aextract]
    · simp [FT.get_set, FT.setL, faS_ptr, nilS_ptr, nilS_func, nilS_yield, pickS_bool, ldS_ptr, list_cells, list_ro, partS_none, lenSl_of, lenStr_of, cvInt_of, aminmax_max, aminmax_min, abin_add, abin_sub, abin_mul, abin_eql, abin_neq, abin_lss, abin_leq, abin_gtr, abin_geq, aunary_not, aextract]
    rintro _ T6 S6 ⟨rfl, t8', w6, hc6⟩
    simp only
    refine m_reg ?_
    rw [reg10_13]
    have hw : IntKind.i64.wrap ((k : Int) + 1) = ((k + 1 : Nat) : Int) := by rw [wrap_i64 (by omega) (by omega)]; rfl
    simp (decide := true) only [FT.get_set, FT.setL, faS_ptr, nilS_ptr, nilS_func, nilS_yield, pickS_bool, ldS_ptr, list_cells, list_ro, partS_none, lenSl_of, lenStr_of, cvInt_of, aminmax_max, aminmax_min, abin_add, abin_sub, abin_mul, abin_eql, abin_neq, abin_lss, abin_leq, abin_gtr, abin_geq, aunary_not, aextract, Option.some.injEq, Prod.mk.injEq, Value.bool.injEq, exists_eq_left', exists_and_left, and_assoc, decide_eq_true_eq, decide_eq_false_iff_not, if_true, if_false, Nat.zero_add, Nat.add_zero, Option.bind_some, true_and, and_true, forall_const, true_implies, Bool.not_eq_true, Bool.false_eq_true, false_implies, ite_self, Nat.mul_one, t8', hw]
    refine ⟨m - 1, by omega, k + 1, w6, by omega, ?_, by simp [FT.get_set, FT.setL, faS_ptr, nilS_ptr, nilS_func, nilS_yield, pickS_bool, ldS_ptr, list_cells, list_ro, partS_none, lenSl_of, lenStr_of, cvInt_of, aminmax_max, aminmax_min, abin_add, abin_sub, abin_mul, abin_eql, abin_neq, abin_lss, abin_leq, abin_gtr, abin_geq, aunary_not, aextract]⟩
    rw [all_succ hb, rowOps, ← List.append_assoc]
    exact ⟨hc6.old, hc6.fb2, hc6.fbc, hc6.w, by simp [FT.get_set, FT.setL, faS_ptr, nilS_ptr, nilS_func, nilS_yield, pickS_bool, ldS_ptr, list_cells, list_ro, partS_none, lenSl_of, lenStr_of, cvInt_of, aminmax_max, aminmax_min, abin_add, abin_sub, abin_mul, abin_eql, abin_neq, abin_lss, abin_leq, abin_gtr, abin_geq, aunary_not, aextract, hc6.t1], by simp [FT.get_set, FT.setL, faS_ptr, nilS_ptr, nilS_func, nilS_yield, pickS_bool, ldS_ptr, list_cells, list_ro, partS_none, lenSl_of, lenStr_of, cvInt_of, aminmax_max, aminmax_min, abin_add, abin_sub, abin_mul, abin_eql, abin_neq, abin_lss, abin_leq, abin_gtr, abin_geq, aunary_not, aextract, hc6.t2], by simp [FT.get_set, FT.setL, faS_ptr, nilS_ptr, nilS_func, nilS_yield, pickS_bool, ldS_ptr, list_cells, list_ro, partS_none, lenSl_of, lenStr_of, cvInt_of, aminmax_max, aminmax_min, abin_add, abin_sub, abin_mul, abin_eql, abin_neq, abin_lss, abin_leq, abin_gtr, abin_geq, aunary_not, aextract, hc6.t4], by simp [FT.get_set, FT.setL, faS_ptr, nilS_ptr, nilS_func, nilS_yield, pickS_bool, ldS_ptr, list_cells, list_ro, partS_none, lenSl_of, lenStr_of, cvInt_of, aminmax_max, aminmax_min, abin_add, abin_sub, abin_mul, abin_eql, abin_neq, abin_lss, abin_leq, abin_gtr, abin_geq, aunary_not, aextract, hc6.t7]⟩
  · have hlt : ¬ k < bs.length := by have := of_decide_eq_false hlt; omega
    have hkn : k = bs.length := by omega
    refine m_exit ?_
    simp only [if_true]
    have hc' : FH10 Sf bs.length rr sv rb gb w (allOps bs bs.length) (((((T.set (.int .i64 k) 37).set (.pointer (some ⟨gb, 0 + 1, none⟩)) 38).set gv 39).set (.int .i64 bs.length) 40).set (.bool (decide ((k : Int) < bs.length))) 41) S1 := by
      rw [← hkn]
      exact ⟨hc.old, hc.fb2, hc.fbc, hc.w, by simp [FT.get_set, FT.setL, faS_ptr, nilS_ptr, nilS_func, nilS_yield, pickS_bool, ldS_ptr, list_cells, list_ro, partS_none, lenSl_of, lenStr_of, cvInt_of, aminmax_max, aminmax_min, abin_add, abin_sub, abin_mul, abin_eql, abin_neq, abin_lss, abin_leq, abin_gtr, abin_geq, aunary_not, aextract, hc.t1], by simp [FT.get_set, FT.setL, faS_ptr, nilS_ptr, nilS_func, nilS_yield, pickS_bool, ldS_ptr, list_cells, list_ro, partS_none, lenSl_of, lenStr_of, cvInt_of, aminmax_max, aminmax_min, abin_add, abin_sub, abin_mul, abin_eql, abin_neq, abin_lss, abin_leq, abin_gtr, abin_geq, aunary_not, aextract, hc.t2], by simp [FT.get_set, FT.setL, faS_ptr, nilS_ptr, nilS_func, nilS_yield, pickS_bool, ldS_ptr, list_cells, list_ro, partS_none, lenSl_of, lenStr_of, cvInt_of, aminmax_max, aminmax_min, abin_add, abin_sub, abin_mul, abin_eql, abin_neq, abin_lss, abin_leq, abin_gtr, abin_geq, aunary_not, aextract, hc.t4], by simp [FT.get_set, FT.setL, faS_ptr, nilS_ptr, nilS_func, nilS_yield, pickS_bool, ldS_ptr, list_cells, list_ro, partS_none, lenSl_of, lenStr_of, cvInt_of, aminmax_max, aminmax_min, abin_add, abin_sub, abin_mul, abin_eql, abin_neq, abin_lss, abin_leq, abin_gtr, abin_geq, aunary_not, aextract, hc.t7]⟩
    first | exact ⟨w, hc'⟩ | exact ⟨rfl, w, hc'⟩

theorem fn10 {S : MS} {rr : Int} {gv : Value} {bs : List Blk} (hg : Blks S gv bs) (hsm : ∀ b ∈ bs, b.ops.length ≤ 1000000) (hp : pos bs bs.length ≤ 900000) : CallM Try.prog O 10 [fnV rr gv] S fun v S' => ToldF bs rr S S' v := by
  refine callM_wf fun wf => ?_
  refine callM_body (fnIs is10 body10 res10) (O_none (by decide)) (by simp) ?_
  refine m_seq (m_reg ?_)
  rw [reg10_0]
  simp (decide := true) only [FT.get_set, FT.setL, faS_ptr, nilS_ptr, nilS_func, nilS_yield, pickS_bool, ldS_ptr, list_cells, list_ro, partS_none, lenSl_of, lenStr_of, cvInt_of, aminmax_max, aminmax_min, abin_add, abin_sub, abin_mul, abin_eql, abin_neq, abin_lss, abin_leq, abin_gtr, abin_geq, aunary_not, aextract, Option.some.injEq, Prod.mk.injEq, Value.bool.injEq, exists_eq_left', exists_and_left, and_assoc, decide_eq_true_eq, decide_eq_false_iff_not, if_true, if_false, Nat.zero_add, Nat.add_zero, Option.bind_some, true_and, and_true, forall_const, true_implies, Bool.not_eq_true, Bool.false_eq_true, false_implies, ite_self, Nat.mul_one, fnV_cells rr hg.one, ptrTo, fresh_n]
  have f1 : Old S ((S.fresh [.int .i64 rr, gv] 0).fresh [.int .i64 0, .slice none 0 0] 0) := ⟨by simp only [fresh_n]; omega, fun y hy => by rw [fresh_old _ _ _ (by simp only [fresh_n]; omega), fresh_old _ _ _ (by omega)]⟩
  have hgb : ((S.fresh [.int .i64 rr, gv] 0).fresh [.int .i64 0, .slice none 0 0] 0).m S.n = some (.cells [.int .i64 rr, gv] 0) := by rw [fresh_old _ _ _ (by simp only [fresh_n]; omega), fresh_at]
  have hrb : ((S.fresh [.int .i64 rr, gv] 0).fresh [.int .i64 0, .slice none 0 0] 0).m (S.n + 1) = some (.cells [.int .i64 0, .slice none 0 0] 0) := fresh_at (S.fresh [.int .i64 rr, gv] 0) _ 0
  have hg1 := hg.keep wf f1.2
  refine m_seq (m_seq (m_reg ?_))
  rw [reg10_1]
  simp (decide := true) only [FT.get_set, FT.setL, faS_ptr, nilS_ptr, nilS_func, nilS_yield, pickS_bool, ldS_ptr, list_cells, list_ro, partS_none, lenSl_of, lenStr_of, cvInt_of, aminmax_max, aminmax_min, abin_add, abin_sub, abin_mul, abin_eql, abin_neq, abin_lss, abin_leq, abin_gtr, abin_geq, aunary_not, aextract, Option.some.injEq, Prod.mk.injEq, Value.bool.injEq, exists_eq_left', exists_and_left, and_assoc, decide_eq_true_eq, decide_eq_false_iff_not, if_true, if_false, Nat.zero_add, Nat.add_zero, Option.bind_some, true_and, and_true, forall_const, true_implies, Bool.not_eq_true, Bool.false_eq_true, false_implies, ite_self, Nat.mul_one, list_of hgb, partS_two]
  refine callM_wf_post (graph23 (rr := rr) hg1 hsm fun r S2 hr hold wf2 => ?_)
  simp (decide := true) only [FT.get_set, FT.setL, faS_ptr, nilS_ptr, nilS_func, nilS_yield, pickS_bool, ldS_ptr, list_cells, list_ro, partS_none, lenSl_of, lenStr_of, cvInt_of, aminmax_max, aminmax_min, abin_add, abin_sub, abin_mul, abin_eql, abin_neq, abin_lss, abin_leq, abin_gtr, abin_geq, aunary_not, aextract, Option.some.injEq, Prod.mk.injEq, Value.bool.injEq, exists_eq_left', exists_and_left, and_assoc, decide_eq_true_eq, decide_eq_false_iff_not, if_true, if_false, Nat.zero_add, Nat.add_zero, Option.bind_some, true_and, and_true, forall_const, true_implies, Bool.not_eq_true, Bool.false_eq_true, false_implies, ite_self, Nat.mul_one, ]
  have hn2 : S.n + 2 ≤ S2.n := hold.1
  have hrb2 := (hold.2 (S.n + 1) (by simp only [fresh_n]; omega)).trans hrb
  have hgb2 := (hold.2 S.n (by simp only [fresh_n]; omega)).trans hgb
  cases r with
  | false =>
    refine m_cond (t := true) (by simp [evalT, FT.get_set, FT.setL, faS_ptr, nilS_ptr, nilS_func, nilS_yield, pickS_bool, ldS_ptr, list_cells, list_ro, partS_none, lenSl_of, lenStr_of, cvInt_of, aminmax_max, aminmax_min, abin_add, abin_sub, abin_mul, abin_eql, abin_neq, abin_lss, abin_leq, abin_gtr, abin_geq, aunary_not, aextract]) (fun _ => ?_) (fun h => by cases h)
    refine m_seq (m_reg ?_)
    rw [reg10_2]
    obtain ⟨S4, u1, u2, u3, u4⟩ := st_all (n := 2) (cs := #[.int .i64 0, .slice none 0 0]) hrb2 rfl rfl rfl
    have hbd : bdS (fun i => [(0, 1), (1, 1)][i]?) [.int .i64 0, .slice none 0 0] [] = some (.agg #[.int .i64 0, .slice none 0 0]) := rfl
    simp (decide := true) only [FT.get_set, FT.setL, faS_ptr, nilS_ptr, nilS_func, nilS_yield, pickS_bool, ldS_ptr, list_cells, list_ro, partS_none, lenSl_of, lenStr_of, cvInt_of, aminmax_max, aminmax_min, abin_add, abin_sub, abin_mul, abin_eql, abin_neq, abin_lss, abin_leq, abin_gtr, abin_geq, aunary_not, aextract, Option.some.injEq, Prod.mk.injEq, Value.bool.injEq, exists_eq_left', exists_and_left, and_assoc, decide_eq_true_eq, decide_eq_false_iff_not, if_true, if_false, Nat.zero_add, Nat.add_zero, Option.bind_some, true_and, and_true, forall_const, true_implies, Bool.not_eq_true, Bool.false_eq_true, false_implies, ite_self, Nat.mul_one, hbd]
    refine ⟨S4, u1, m_ret ?_⟩
    simp [resM, mload29, FT.get_set, FT.setL, faS_ptr, nilS_ptr, nilS_func, nilS_yield, pickS_bool, ldS_ptr, list_cells, list_ro, partS_none, lenSl_of, lenStr_of, cvInt_of, aminmax_max, aminmax_min, abin_add, abin_sub, abin_mul, abin_eql, abin_neq, abin_lss, abin_leq, abin_gtr, abin_geq, aunary_not, aextract, list_of u2, partS_two, oneOrTuple]
    exact ⟨⟨by omega, fun y hy => by rw [u4 y (by omega)]; exact (f1.trans hold).2 y hy⟩, .inl ⟨(fun h => by have := hr.2 h; cases this), rfl⟩⟩
  | true =>
    have hok := hr.1 rfl
    refine m_cond (t := false) (by simp [evalT, FT.get_set, FT.setL, faS_ptr, nilS_ptr, nilS_func, nilS_yield, pickS_bool, ldS_ptr, list_cells, list_ro, partS_none, lenSl_of, lenStr_of, cvInt_of, aminmax_max, aminmax_min, abin_add, abin_sub, abin_mul, abin_eql, abin_neq, abin_lss, abin_leq, abin_gtr, abin_geq, aunary_not, aextract]) (fun h => by cases h) (fun _ => m_skip ?_)
    simp only
    refine m_seq (m_reg ?_)
    rw [reg10_3]
    refine m_seq (m_reg ?_)
    rw [reg10_4]
    refine m_seq (m_seq (m_reg ?_))
    rw [reg10_5]
    refine MWp.mono (first10 (S0 := S) (rr := rr) (gv := gv) hok hg wf (by omega) ⟨0, by omega, f1.trans hold, hn2, hgb2, hrb2, by simp [FT.get_set, FT.setL, faS_ptr, nilS_ptr, nilS_func, nilS_yield, pickS_bool, ldS_ptr, list_cells, list_ro, partS_none, lenSl_of, lenStr_of, cvInt_of, aminmax_max, aminmax_min, abin_add, abin_sub, abin_mul, abin_eql, abin_neq, abin_lss, abin_leq, abin_gtr, abin_geq, aunary_not, aextract]; exact .non, by simp [FT.get_set, FT.setL, faS_ptr, nilS_ptr, nilS_func, nilS_yield, pickS_bool, ldS_ptr, list_cells, list_ro, partS_none, lenSl_of, lenStr_of, cvInt_of, aminmax_max, aminmax_min, abin_add, abin_sub, abin_mul, abin_eql, abin_neq, abin_lss, abin_leq, abin_gtr, abin_geq, aunary_not, aextract], by simp [FT.get_set, FT.setL, faS_ptr, nilS_ptr, nilS_func, nilS_yield, pickS_bool, ldS_ptr, list_cells, list_ro, partS_none, lenSl_of, lenStr_of, cvInt_of, aminmax_max, aminmax_min, abin_add, abin_sub, abin_mul, abin_eql, abin_neq, abin_lss, abin_leq, abin_gtr, abin_geq, aunary_not, aextract], by simp [FT.get_set, FT.setL, faS_ptr, nilS_ptr, nilS_func, nilS_yield, pickS_bool, ldS_ptr, list_cells, list_ro, partS_none, lenSl_of, lenStr_of, cvInt_of, aminmax_max, aminmax_min, abin_add, abin_sub, abin_mul, abin_eql, abin_neq, abin_lss, abin_leq, abin_gtr, abin_geq, aunary_not, aextract]; rfl, by simp [FT.get_set, FT.setL, faS_ptr, nilS_ptr, nilS_func, nilS_yield, pickS_bool, ldS_ptr, list_cells, list_ro, partS_none, lenSl_of, lenStr_of, cvInt_of, aminmax_max, aminmax_min, abin_add, abin_sub, abin_mul, abin_eql, abin_neq, abin_lss, abin_leq, abin_gtr, abin_geq, aunary_not, aextract]⟩) ?_
    rintro _ T3 S3 ⟨rfl, k, hk, hold3, hn3, hgb3, hrb3, hsl, t1, t2, t5, t6⟩
    have hkn : k = bs.length := by omega
    rw [hkn] at hsl
    simp only
    refine m_wf fun wf3 => m_seq (m_reg ?_)
    rw [reg10_10]
    have hbd : bdS (fun i => [(0, 1), (1, 1)][i]?) [.int .i64 0, .slice none 0 0] [(0, .int .i64 rr)] = some (.agg #[.int .i64 rr, .slice none 0 0]) := rfl
    obtain ⟨S4, u1, u2, u3, u4⟩ := st_all (n := 2) (cs := #[.int .i64 rr, .slice none 0 0]) (fresh_at S3 [.int .i64 0, .slice none 0 0] 0) rfl rfl rfl
    simp (decide := true) only [FT.get_set, FT.setL, faS_ptr, nilS_ptr, nilS_func, nilS_yield, pickS_bool, ldS_ptr, list_cells, list_ro, partS_none, lenSl_of, lenStr_of, cvInt_of, aminmax_max, aminmax_min, abin_add, abin_sub, abin_mul, abin_eql, abin_neq, abin_lss, abin_leq, abin_gtr, abin_geq, aunary_not, aextract, Option.some.injEq, Prod.mk.injEq, Value.bool.injEq, exists_eq_left', exists_and_left, and_assoc, decide_eq_true_eq, decide_eq_false_iff_not, if_true, if_false, Nat.zero_add, Nat.add_zero, Option.bind_some, true_and, and_true, forall_const, true_implies, Bool.not_eq_true, Bool.false_eq_true, false_implies, ite_self, Nat.mul_one, t1, list_of hgb3, List.getElem?_cons_zero, hbd, ptrTo]
    refine ⟨S4, u1, ?_⟩
    have hs4n : S4.n = S3.n + 1 := u3
    have f4 : ∀ y, y < S3.n → S4.m y = S3.m y := fun y hy => by rw [u4 y (by omega), fresh_old _ _ _ (by omega)]
    refine m_seq (m_seq (m_reg ?_))
    rw [reg10_11]
    have hst : Starts S3 bs (T3.get 4) := by
      intro j hj
      obtain ⟨a, q1, q2⟩ := hsl.at (st_at bs hj)
      refine ⟨a, j, q1, fun S' hS' => ?_⟩
      have hex : ∃ l, S3.list a = some l := by
        rw [ldS_ptr] at q2
        cases h : S3.list a with
        | none => rw [h] at q2; cases q2
        | some l => exact ⟨l, rfl⟩
      obtain ⟨l, hl⟩ := hex
      have ha : a < S3.n := by
        unfold MS.list at hl
        cases hm : S3.m a with
        | none => rw [hm] at hl; cases hl
        | some kk => exact wf3 _ _ hm
      have hl' : S'.list a = S3.list a := by unfold MS.list; rw [hS' a ha]
      rw [ldS_ptr, hl', ← ldS_ptr]; exact q2
    refine MWp.mono (second10 (S0 := S) (Sf := S3) (sv := T3.get 4) (rb := S.n + 1) (gb := S.n) (rr := rr) (gv := gv) hok hg wf hold3 hst (by omega) (by omega) hgb3 ⟨0, .slice none 0 0, by omega, ⟨f4, by omega, u2, .non, by simp [FT.get_set, FT.setL, faS_ptr, nilS_ptr, nilS_func, nilS_yield, pickS_bool, ldS_ptr, list_cells, list_ro, partS_none, lenSl_of, lenStr_of, cvInt_of, aminmax_max, aminmax_min, abin_add, abin_sub, abin_mul, abin_eql, abin_neq, abin_lss, abin_leq, abin_gtr, abin_geq, aunary_not, aextract, t1], by simp [FT.get_set, FT.setL, faS_ptr, nilS_ptr, nilS_func, nilS_yield, pickS_bool, ldS_ptr, list_cells, list_ro, partS_none, lenSl_of, lenStr_of, cvInt_of, aminmax_max, aminmax_min, abin_add, abin_sub, abin_mul, abin_eql, abin_neq, abin_lss, abin_leq, abin_gtr, abin_geq, aunary_not, aextract, t2], by simp [FT.get_set, FT.setL, faS_ptr, nilS_ptr, nilS_func, nilS_yield, pickS_bool, ldS_ptr, list_cells, list_ro, partS_none, lenSl_of, lenStr_of, cvInt_of, aminmax_max, aminmax_min, abin_add, abin_sub, abin_mul, abin_eql, abin_neq, abin_lss, abin_leq, abin_gtr, abin_geq, aunary_not, aextract], by simp [FT.get_set, FT.setL, faS_ptr, nilS_ptr, nilS_func, nilS_yield, pickS_bool, ldS_ptr, list_cells, list_ro, partS_none, lenSl_of, lenStr_of, cvInt_of, aminmax_max, aminmax_min, abin_add, abin_sub, abin_mul, abin_eql, abin_neq, abin_lss, abin_leq, abin_gtr, abin_geq, aunary_not, aextract]⟩, by simp [FT.get_set, FT.setL, faS_ptr, nilS_ptr, nilS_func, nilS_yield, pickS_bool, ldS_ptr, list_cells, list_ro, partS_none, lenSl_of, lenStr_of, cvInt_of, aminmax_max, aminmax_min, abin_add, abin_sub, abin_mul, abin_eql, abin_neq, abin_lss, abin_leq, abin_gtr, abin_geq, aunary_not, aextract]⟩) ?_
    rintro _ T5 S5 ⟨rfl, w, hc⟩
    simp only
    refine m_seq (m_reg ?_)
    rw [reg10_25]
    have c2 := hc.fb2
    have c3 := hold3.1
    obtain ⟨S6, v1, v2, v3, v4⟩ := st_all (n := 2) (cs := #[.int .i64 rr, w]) ((hc.old _ (by omega)).trans hrb3) rfl rfl (by
      show ([.int .i64 rr, w] : List Value).all oneCell = true
      simp only [List.all_cons, (SlF.one hc.w).2]; rfl)
    simp (decide := true) only [FT.get_set, FT.setL, faS_ptr, nilS_ptr, nilS_func, nilS_yield, pickS_bool, ldS_ptr, list_cells, list_ro, partS_none, lenSl_of, lenStr_of, cvInt_of, aminmax_max, aminmax_min, abin_add, abin_sub, abin_mul, abin_eql, abin_neq, abin_lss, abin_leq, abin_gtr, abin_geq, aunary_not, aextract, Option.some.injEq, Prod.mk.injEq, Value.bool.injEq, exists_eq_left', exists_and_left, and_assoc, decide_eq_true_eq, decide_eq_false_iff_not, if_true, if_false, Nat.zero_add, Nat.add_zero, Option.bind_some, true_and, and_true, forall_const, true_implies, Bool.not_eq_true, Bool.false_eq_true, false_implies, ite_self, Nat.mul_one, hc.t2, hc.t7, list_of hc.fbc, partS_two]
    refine ⟨S6, v1, m_ret ?_⟩
    simp [resM, mload29, FT.get_set, FT.setL, faS_ptr, nilS_ptr, nilS_func, nilS_yield, pickS_bool, ldS_ptr, list_cells, list_ro, partS_none, lenSl_of, lenStr_of, cvInt_of, aminmax_max, aminmax_min, abin_add, abin_sub, abin_mul, abin_eql, abin_neq, abin_lss, abin_leq, abin_gtr, abin_geq, aunary_not, aextract, hc.t2, list_of v2, partS_two, oneOrTuple]
    refine ⟨⟨by omega, fun y hy => by rw [v4 y (by omega), hc.old y (by omega)]; exact hold3.2 y hy⟩, .inr ⟨hok, w, ?_, rfl⟩⟩
    refine (hc.w.keep1 fun y k hy _ => v4 y fun e => ?_).weaken (by omega)
    subst e
    exact hy (hc.w.av (by omega))
end Go.Proofs.Ytgkdmnfmfcdfmaa

