/-
  The walk through the journal's code: what its functions do to memory, part FmD6. Nothing is asked.
-/
import Derived.Test.YtmfmbadfgnhonaaFmD5
set_option linter.all false
namespace Go.Proofs.Ytmfmbadfgnhonaa
open Go Go.Ag
set_option linter.unusedVariables false
set_option maxRecDepth 100000

/-- New -/
def newDK (a n : Nat) : DK := ⟨a, a + 1, 0, List.replicate n none, List.replicate n none, [], -1, false⟩
theorem bd_d (a b : Value) (ha : a.cells = #[a]) (hb : b.cells = #[b]) : bdS (fun i => [(0, 1), (1, 1), (2, 1), (3, 1), (4, 1)][i]?) [.slice none 0 0, .slice none 0 0, .slice none 0 0, .int .i64 0, .bool false] [(0, a), (1, b), (3, (.int .i64 (-1)))] = some (.agg #[a, b, .slice none 0 0, .int .i64 (-1), .bool false]) := by
  simp [bdS, fillL, spliceL, ha, hb, cells_int]
theorem new8 {S : MS} (n : Nat) (h1 : 1 ≤ n) (h2 : n ≤ 16384) {Q : Value → MS → Prop} (hq : ∀ S', IsD S' (S.n + 2) (newDK S.n n) → S'.n = S.n + 3 → (∀ x, x < S.n → S'.m x = S.m x) → Q (.tuple #[.pointer (some ⟨S.n + 2, 0, none⟩), .int .i64 0]) S') :
    CallM Try.prog O 8 [.int .i64 n] S Q := by
  refine callM_body (fnIs is8 body8 res8) (O_none (by decide)) (by simp) ?_
  refine m_seq (m_reg ?_)
  rw [reg8_0]
  refine m_seq (m_seq (m_reg ?_))
  rw [reg8_1]
  simp (decide := true) only [FT.get_set, FT.setL, faS_ptr, nilS_ptr, nilS_func, nilS_yield, pickS_bool, ldS_ptr, list_cells, list_ro, partS_none, lenSl_of, lenStr_of, cvInt_of, aminmax_max, aminmax_min, abin_add, abin_sub, abin_mul, abin_eql, abin_neq, abin_lss, abin_leq, abin_gtr, abin_geq, aunary_not, aextract, Option.some.injEq, Prod.mk.injEq, Value.bool.injEq, exists_eq_left', exists_and_left, and_assoc, decide_eq_true_eq, decide_eq_false_iff_not, if_true, if_false, Nat.zero_add, Nat.add_zero, Option.bind_some, true_and, and_true, forall_const, true_implies, Bool.not_eq_true, Bool.false_eq_true, false_implies, ite_self, Nat.mul_one, ]
  refine ⟨fun h => absurd (h : (n : Int) < 1) (by omega), fun h => ?_⟩
  refine m_cond (t := false) ?_ (fun h => by cases h) (fun _ => ?_)
  · have : ¬ (n : Int) < 1 := by omega
    have h3 : ¬ (n : Int) > 16384 := by omega
    simp [evalT, FT.get_set, FT.setL, faS_ptr, nilS_ptr, nilS_func, nilS_yield, pickS_bool, ldS_ptr, list_cells, list_ro, partS_none, lenSl_of, lenStr_of, cvInt_of, aminmax_max, aminmax_min, abin_add, abin_sub, abin_mul, abin_eql, abin_neq, abin_lss, abin_leq, abin_gtr, abin_geq, aunary_not, aextract, this]; omega
  refine m_skip ?_
  simp only
  refine m_seq (m_draw ?_)
  rw [reg8_3]
  simp (decide := true) only [FT.get_set, FT.setL, faS_ptr, nilS_ptr, nilS_func, nilS_yield, pickS_bool, ldS_ptr, list_cells, list_ro, partS_none, lenSl_of, lenStr_of, cvInt_of, aminmax_max, aminmax_min, abin_add, abin_sub, abin_mul, abin_eql, abin_neq, abin_lss, abin_leq, abin_gtr, abin_geq, aunary_not, aextract, Option.some.injEq, Prod.mk.injEq, Value.bool.injEq, exists_eq_left', exists_and_left, and_assoc, decide_eq_true_eq, decide_eq_false_iff_not, if_true, if_false, Nat.zero_add, Nat.add_zero, Option.bind_some, true_and, and_true, forall_const, true_implies, Bool.not_eq_true, Bool.false_eq_true, false_implies, ite_self, Nat.mul_one, msS_of (n := n) S 1 8 [.pointer none] .i64 .i64 (by omega) (by omega), msS_of (n := n) (S.fresh (zeros [.pointer none] n) 1) 1 8 [.pointer none] .i64 .i64 (by omega) (by omega), fresh_n, bd_d (.slice (some ⟨S.n, 0, none⟩) n n) (.slice (some ⟨S.n + 1, 0, none⟩) n n) rfl rfl]
  refine m_ret ?_
  simp [resM, FT.get_set, FT.setL, faS_ptr, nilS_ptr, nilS_func, nilS_yield, pickS_bool, ldS_ptr, list_cells, list_ro, partS_none, lenSl_of, lenStr_of, cvInt_of, aminmax_max, aminmax_min, abin_add, abin_sub, abin_mul, abin_eql, abin_neq, abin_lss, abin_leq, abin_gtr, abin_geq, aunary_not, aextract, oneOrTuple, ptrTo, fresh_n]
  have hz : zeros [.pointer none] n = (List.replicate n none).map pv := by rw [zeros_one, List.map_replicate]; rfl
  refine hq _ ⟨by simp [newDK], ?_, ?_, ?_, fun hw => absurd rfl hw, by simp [newDK], by simp [newDK]; omega⟩ (by simp [fresh_n]) (fun x hx => ?_)
  · have e : S.n + 2 = ((S.fresh (zeros [.pointer none] n) 1).fresh (zeros [.pointer none] n) 1).n := rfl
    rw [e, fresh_at]
    simp [newDK, diskL, cells_agg, wsa, wsc]
  · rw [fresh_old _ _ _ (by simp only [fresh_n, newDK]; omega), fresh_old _ _ _ (by simp only [fresh_n, newDK]; omega)]
    show (S.fresh (zeros [.pointer none] n) 1).m S.n = _
    rw [fresh_at, hz]; rfl
  · rw [fresh_old _ _ _ (by simp [fresh_n, newDK])]
    show ((S.fresh (zeros [.pointer none] n) 1).fresh (zeros [.pointer none] n) 1).m ((S.fresh (zeros [.pointer none] n) 1).n) = _
    rw [fresh_at, hz]; rfl
  · rw [fresh_old _ _ _ (by simp [fresh_n]; omega), fresh_old _ _ _ (by simp [fresh_n]; omega), fresh_old _ _ _ (by omega)]
end Go.Proofs.Ytmfmbadfgnhonaa

