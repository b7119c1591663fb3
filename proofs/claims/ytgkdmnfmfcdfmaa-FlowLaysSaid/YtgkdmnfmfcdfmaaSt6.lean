/-
  The walk through the code of blocks and of what is reached, part F6: what its functions do to memory. Nothing is asked.
-/
import Derived.Test.YtgkdmnfmfcdfmaaSt5
set_option linter.all false
namespace Go.Proofs.Ytgkdmnfmfcdfmaa
open Go Go.Ag
set_option linter.unusedVariables false
set_option maxRecDepth 100000

theorem walk25 {S : MS} {n : Int} {f : Fn} {a b : Array Value} {Q : Value → MS → Prop} (hq : Q (.func (.func 39) #[] #[.pointer (some ⟨S.n, 0, none⟩), .pointer (some ⟨S.n + 1, 0, none⟩)]) ((S.fresh [.int .i64 n] 0).fresh [.func f a b] 0)) :
    CallM Try.prog O 25 [.int .i64 n, .func f a b] S Q := by
  refine callM_body (fnIs is25 body25 res25) (O_none (by decide)) (by simp) ?_
  refine m_seq (m_reg ?_)
  rw [reg25_0]
  refine m_seq (m_reg ?_)
  rw [reg25_1]
  refine m_ret ?_
  simp [resM, FT.get_set, FT.setL, faS_ptr, nilS_ptr, nilS_func, nilS_yield, pickS_bool, ldS_ptr, list_cells, list_ro, partS_none, lenSl_of, lenStr_of, cvInt_of, aminmax_max, aminmax_min, abin_add, abin_sub, abin_mul, abin_eql, abin_neq, abin_lss, abin_leq, abin_gtr, abin_geq, aunary_not, aextract, oneOrTuple, cells_int, cells_func, ptrTo, fresh_n]
  exact hq

end Go.Proofs.Ytgkdmnfmfcdfmaa

