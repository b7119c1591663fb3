/-
  The walk through the journal's code: what its functions do to memory, part FmJ13. Nothing is asked.
-/
import Derived.Test.YtmfmbadfgnhonaaFmJ12
set_option linter.all false
namespace Go.Proofs.Ytmfmbadfgnhonaa
open Go Go.Ag
set_option linter.unusedVariables false
set_option maxRecDepth 100000

theorem parts39 {S : MS} {v : Value} {bs : List UInt8} (h : RB S v bs) {Q : Value → MS → Prop} (hq : Q (.func (.func 45) #[] #[.pointer (some ⟨S.n, 0, none⟩)]) (S.fresh [v] 0)) : CallM Try.prog O 39 [v] S Q := by
  refine callM_body (fnIs is39 body39 res39) (O_none (by decide)) (by simp) ?_
  refine m_seq (m_reg ?_)
  rw [reg39_0]
  refine m_seq (m_reg ?_)
  rw [reg39_1]
  have hc : (Value.cells v).toList = [v] := by rw [h.one.1]
  refine m_ret ?_
  simp [resM, FT.get_set, FT.setL, faS_ptr, nilS_ptr, nilS_func, nilS_yield, pickS_bool, ldS_ptr, list_cells, list_ro, partS_none, lenSl_of, lenStr_of, cvInt_of, aminmax_max, aminmax_min, abin_add, abin_sub, abin_mul, abin_eql, abin_neq, abin_lss, abin_leq, abin_gtr, abin_geq, aunary_not, aextract, oneOrTuple, hc, ptrTo]
  exact hq
end Go.Proofs.Ytmfmbadfgnhonaa

