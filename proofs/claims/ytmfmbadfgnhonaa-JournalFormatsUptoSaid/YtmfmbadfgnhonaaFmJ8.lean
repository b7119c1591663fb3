/-
  The walk through the journal's code: what its functions do to memory, part FmJ8. Nothing is asked.
-/
import Derived.Test.YtmfmbadfgnhonaaFmJ7
set_option linter.all false
namespace Go.Proofs.Ytmfmbadfgnhonaa
open Go Go.Ag
set_option linter.unusedVariables false
set_option maxRecDepth 100000

theorem jl6 (d : Nat) (h e : Int) (a b c : Value) (k : Bool) : (jouL d h e a b c k)[6]? = some (.bool k) := rfl
theorem js6 (d : Nat) (h e : Int) (a b c : Value) (k x : Bool) : (jouL d h e a b c k).set 6 (.bool x) = jouL d h e a b c x := rfl

/-- dies: an error that is none leaves it alive -/
theorem dies41 {S : MS} {j d : Nat} {half end' : Int} {base recs tail : Value} {dead : Bool} (hj : S.m j = some (.cells (jouL d half end' base recs tail dead) 0)) (e : Int) (he : e ≠ 0) {Q : Value → MS → Prop}
    (hq : ∀ S', S'.m j = some (.cells (jouL d half end' base recs tail true) 0) → S'.n = S.n → (∀ x, x ≠ j → S'.m x = S.m x) → Q (.int .i64 e) S') : CallM Try.prog O 41 [.pointer (some ⟨j, 0, none⟩), .int .i64 e] S Q := by
  refine callM_body (fnIs is41 body41 res41) (O_none (by decide)) (by simp) ?_
  refine m_seq (m_reg ?_)
  rw [reg41_0]
  refine m_seq (m_reg ?_)
  rw [reg41_1]
  have hne : (!(e == 0)) = true := by simp [he]
  have hne2 : (e != 0) = true := by simp [he]
  obtain ⟨S1, u1, u2, u3, u4⟩ := st_one (off := 6) (v := .bool true) hj (by show 6 < 7; omega) rfl rfl
  rw [js6] at u2
  cases dead with
  | true =>
    simp (decide := true) only [FT.get_set, FT.setL, faS_ptr, nilS_ptr, nilS_func, nilS_yield, pickS_bool, ldS_ptr, list_cells, list_ro, partS_none, lenSl_of, lenStr_of, cvInt_of, aminmax_max, aminmax_min, abin_add, abin_sub, abin_mul, abin_eql, abin_neq, abin_lss, abin_leq, abin_gtr, abin_geq, aunary_not, aextract, Option.some.injEq, Prod.mk.injEq, Value.bool.injEq, exists_eq_left', exists_and_left, and_assoc, decide_eq_true_eq, decide_eq_false_iff_not, if_true, if_false, Nat.zero_add, Nat.add_zero, Option.bind_some, true_and, and_true, forall_const, true_implies, Bool.not_eq_true, Bool.false_eq_true, false_implies, ite_self, Nat.mul_one, list_of hj, jl6]
    refine ⟨S1, u1, ?_⟩
    refine m_seq (m_reg ?_)
    rw [reg41_2]
    refine m_ret ?_
    simp [resM, FT.get_set, FT.setL, faS_ptr, nilS_ptr, nilS_func, nilS_yield, pickS_bool, ldS_ptr, list_cells, list_ro, partS_none, lenSl_of, lenStr_of, cvInt_of, aminmax_max, aminmax_min, abin_add, abin_sub, abin_mul, abin_eql, abin_neq, abin_lss, abin_leq, abin_gtr, abin_geq, aunary_not, aextract, oneOrTuple]
    exact hq S1 u2 u3 u4
  | false =>
    simp (decide := true) only [FT.get_set, FT.setL, faS_ptr, nilS_ptr, nilS_func, nilS_yield, pickS_bool, ldS_ptr, list_cells, list_ro, partS_none, lenSl_of, lenStr_of, cvInt_of, aminmax_max, aminmax_min, abin_add, abin_sub, abin_mul, abin_eql, abin_neq, abin_lss, abin_leq, abin_gtr, abin_geq, aunary_not, aextract, Option.some.injEq, Prod.mk.injEq, Value.bool.injEq, exists_eq_left', exists_and_left, and_assoc, decide_eq_true_eq, decide_eq_false_iff_not, if_true, if_false, Nat.zero_add, Nat.add_zero, Option.bind_some, true_and, and_true, forall_const, true_implies, Bool.not_eq_true, Bool.false_eq_true, false_implies, ite_self, Nat.mul_one, list_of hj, jl6, hne, hne2]
    refine ⟨S1, u1, ?_⟩
    refine m_seq (m_reg ?_)
    rw [reg41_2]
    refine m_ret ?_
    simp [resM, FT.get_set, FT.setL, faS_ptr, nilS_ptr, nilS_func, nilS_yield, pickS_bool, ldS_ptr, list_cells, list_ro, partS_none, lenSl_of, lenStr_of, cvInt_of, aminmax_max, aminmax_min, abin_add, abin_sub, abin_mul, abin_eql, abin_neq, abin_lss, abin_leq, abin_gtr, abin_geq, aunary_not, aextract, oneOrTuple]
    exact hq S1 u2 u3 u4
end Go.Proofs.Ytmfmbadfgnhonaa

