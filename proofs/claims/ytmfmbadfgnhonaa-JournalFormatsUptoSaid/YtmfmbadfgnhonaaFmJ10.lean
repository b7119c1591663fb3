/-
  The walk through the journal's code: what its functions do to memory, part FmJ10. Nothing is asked.
-/
import Derived.Test.YtmfmbadfgnhonaaFmJ9
set_option linter.all false
namespace Go.Proofs.Ytmfmbadfgnhonaa
open Go Go.Ag
set_option linter.unusedVariables false
set_option maxRecDepth 100000

/-- Base: a copy -/
theorem base25 {S : MS} {j d B half end' : Nat} {base tail : List UInt8} {rs : List (List UInt8)} {dead : Bool} (h : IsJ S j d B half end' base rs tail dead) (hl : base.length ≤ 400000) {Q : Value → MS → Prop} (hq : ∀ v S', Old S S' → SlF bF 1 S' S.n v base → Q v S') : CallM Try.prog O 25 [.pointer (some ⟨j, 0, none⟩)] S Q := by
  obtain ⟨bv, rv, tv, rl, hj, hb, hr, hrs, ht, hav⟩ := h.ex
  refine callM_body (fnIs is25 body25 res25) (O_none (by decide)) (by simp) ?_
  refine m_seq (m_reg ?_)
  rw [reg25_0]
  refine m_seq (m_reg ?_)
  rw [reg25_1]
  have g3 : (jouL d half end' bv rv tv dead)[3]? = some bv := rfl
  simp (decide := true) only [FT.get_set, FT.setL, faS_ptr, nilS_ptr, nilS_func, nilS_yield, pickS_bool, ldS_ptr, list_cells, list_ro, partS_none, lenSl_of, lenStr_of, cvInt_of, aminmax_max, aminmax_min, abin_add, abin_sub, abin_mul, abin_eql, abin_neq, abin_lss, abin_leq, abin_gtr, abin_geq, aunary_not, aextract, Option.some.injEq, Prod.mk.injEq, Value.bool.injEq, exists_eq_left', exists_and_left, and_assoc, decide_eq_true_eq, decide_eq_false_iff_not, if_true, if_false, Nat.zero_add, Nat.add_zero, Option.bind_some, true_and, and_true, forall_const, true_implies, Bool.not_eq_true, Bool.false_eq_true, false_implies, ite_self, Nat.mul_one, list_of hj, g3]
  refine clone40 hb hl fun v S' f hv => ?_
  refine m_ret ?_
  simp [resM, FT.get_set, FT.setL, faS_ptr, nilS_ptr, nilS_func, nilS_yield, pickS_bool, ldS_ptr, list_cells, list_ro, partS_none, lenSl_of, lenStr_of, cvInt_of, aminmax_max, aminmax_min, abin_add, abin_sub, abin_mul, abin_eql, abin_neq, abin_lss, abin_leq, abin_gtr, abin_geq, aunary_not, aextract, oneOrTuple]
  exact hq v S' f hv
theorem IsJ.old {S S' : MS} {j d B half end' : Nat} {base tail : List UInt8} {rs : List (List UInt8)} {dead : Bool} (h : IsJ S j d B half end' base rs tail dead) (wf : S.WF) (f : Old S S') : IsJ S' j d B half end' base rs tail dead := by
  obtain ⟨bv, rv, tv, rl, hj, hb, hr, hrs, ht, hav⟩ := h.ex
  exact ⟨bv, rv, tv, rl, by rw [f.2 j (wf _ _ hj)]; exact hj, hb.keep wf f.2, hr.keep fun y k hk => f.2 y (wf y k hk), hrs.keep wf f.2, ht.keep wf f.2, hav⟩
end Go.Proofs.Ytmfmbadfgnhonaa

