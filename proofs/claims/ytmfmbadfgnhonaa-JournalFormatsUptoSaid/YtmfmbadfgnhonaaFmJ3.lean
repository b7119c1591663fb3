/-
  The walk through the journal's code: what its functions do to memory, part FmJ3. Nothing is asked.
-/
import Derived.Test.YtmfmbadfgnhonaaFmJ2
set_option linter.all false
namespace Go.Proofs.Ytmfmbadfgnhonaa
open Go Go.Ag
set_option linter.unusedVariables false
set_option maxRecDepth 100000

def RI36 (S : MS) (v : Value) (n : Nat) (m : Nat) (T : FT) (S' : MS) : Prop := ∃ i, i + m = 8 ∧ S' = S ∧ T.get 0 = v ∧ T.get 3 = .int .i64 ((n % 256 ^ i : Nat) : Int) ∧ T.get 5 = .int .i64 i

theorem read36 {S : MS} {v : Value} {bs : List UInt8} (n : Nat) (hn : n < 4611686018427387904) (h : RB S v bs) (hb : bs.take 8 = num8 n) {Q : Value → MS → Prop} (hq : Q (.int .i64 n) S) : CallM Try.prog O 36 [v] S Q := by
  refine callM_body (fnIs is36 body36 res36) (O_none (by decide)) (by simp) ?_
  refine m_seq (m_reg ?_)
  rw [reg36_0]
  refine m_seq (m_reg ?_)
  rw [reg36_1]
  refine m_seq (m_seq (m_reg ?_))
  rw [reg36_2]
  unfold blk36_0
  refine m_block (m_loop (fun m T S' => RI36 S v n m T S') 8 ⟨0, by omega, rfl, by simp [FT.get_set, FT.setL, faS_ptr, nilS_ptr, nilS_func, nilS_yield, pickS_bool, ldS_ptr, list_cells, list_ro, partS_none, lenSl_of, lenStr_of, cvInt_of, aminmax_max, aminmax_min, abin_add, abin_sub, abin_mul, abin_eql, abin_neq, abin_lss, abin_leq, abin_gtr, abin_geq, aunary_not, aextract], by simp [FT.get_set, FT.setL, faS_ptr, nilS_ptr, nilS_func, nilS_yield, pickS_bool, ldS_ptr, list_cells, list_ro, partS_none, lenSl_of, lenStr_of, cvInt_of, aminmax_max, aminmax_min, abin_add, abin_sub, abin_mul, abin_eql, abin_neq, abin_lss, abin_leq, abin_gtr, abin_geq, aunary_not, aextract, Nat.mod_one], by simp [FT.get_set, FT.setL, faS_ptr, nilS_ptr, nilS_func, nilS_yield, pickS_bool, ldS_ptr, list_cells, list_ro, partS_none, lenSl_of, lenStr_of, cvInt_of, aminmax_max, aminmax_min, abin_add, abin_sub, abin_mul, abin_eql, abin_neq, abin_lss, abin_leq, abin_gtr, abin_geq, aunary_not, aextract]⟩ ?_)
  rintro m T S1 ⟨i, hi, rfl, t0, t3, t5⟩
  refine m_seq (m_reg ?_)
  rw [reg36_3]
  simp (decide := true) only [FT.get_set, FT.setL, faS_ptr, nilS_ptr, nilS_func, nilS_yield, pickS_bool, ldS_ptr, list_cells, list_ro, partS_none, lenSl_of, lenStr_of, cvInt_of, aminmax_max, aminmax_min, abin_add, abin_sub, abin_mul, abin_eql, abin_neq, abin_lss, abin_leq, abin_gtr, abin_geq, aunary_not, aextract, Option.some.injEq, Prod.mk.injEq, Value.bool.injEq, exists_eq_left', exists_and_left, and_assoc, decide_eq_true_eq, decide_eq_false_iff_not, if_true, if_false, Nat.zero_add, Nat.add_zero, Option.bind_some, true_and, and_true, forall_const, true_implies, Bool.not_eq_true, Bool.false_eq_true, false_implies, ite_self, Nat.mul_one, t5]
  refine m_seq (m_cond (t := decide ((i : Int) < 8)) (by simp [evalT, FT.get_set, FT.setL, faS_ptr, nilS_ptr, nilS_func, nilS_yield, pickS_bool, ldS_ptr, list_cells, list_ro, partS_none, lenSl_of, lenStr_of, cvInt_of, aminmax_max, aminmax_min, abin_add, abin_sub, abin_mul, abin_eql, abin_neq, abin_lss, abin_leq, abin_gtr, abin_geq, aunary_not, aextract]) (fun hlt => m_skip ?_) (fun hlt => m_exit ?_))
  · have hlt : i < 8 := by have := of_decide_eq_true hlt; omega
    simp only
    unfold blk36_1
    refine m_seq (m_block (m_seq (m_reg ?_)))
    rw [reg36_4]
    refine m_reg ?_
    rw [reg36_5]
    obtain ⟨d, hd⟩ : ∃ d, d = n / 256 ^ i % 256 := ⟨_, rfl⟩
    have hd256 : d < 256 := by rw [hd]; exact Nat.mod_lt _ (by omega)
    have hbi : bs[i]? = some (UInt8.ofNat d) := by
      have h1 : (bs.take 8)[i]? = some (UInt8.ofNat d) := by rw [hb, num8_get n i hlt, hd]
      rwa [List.getElem?_take, if_pos hlt] at h1
    obtain ⟨p, hp1, hp2⟩ := h.at hbi
    rw [u8_nat d hd256] at hp2
    have hcv : IntKind.i64.wrap (d : Int) = d := wrap_i64 (by omega) (by omega)
    have hw8 : IntKind.i64.wrap (8 * (i : Int)) = ((8 * i : Nat) : Int) := by rw [wrap_i64 (by omega) (by omega)]; omega
    have hmod : n % 256 ^ (i + 1) = n % 256 ^ i + 256 ^ i * d := by rw [hd]; exact Nat.mod_pow_succ
    have hle : n % 256 ^ (i + 1) ≤ n := Nat.mod_le _ _
    have hc : d * 2 ^ (8 * i) = 256 ^ i * d := by rw [pow8, Nat.mul_comm]
    have hsh := abin_shl' Try.prog 3 (.tmp 13) (.tmp 15) .i64 .i64 d (8 * i) (by show 8 * i ≤ 64; omega)
    rw [hc, wrap_i64 (by omega) (by omega)] at hsh
    have hlt2 : n % 256 ^ i < 2 ^ (8 * i) := by rw [pow8]; exact Nat.mod_lt _ (Nat.pow_pos (by omega))
    have horn : n % 256 ^ i ||| 256 ^ i * d = n % 256 ^ (i + 1) := by
      rw [hmod, ← pow8, Nat.or_comm, ← Nat.two_pow_add_eq_or_of_lt (by rw [pow8] at hlt2 ⊢; exact hlt2), Nat.add_comm]
    have hor := abin_or' Try.prog 3 (.tmp 8) (.tmp 16) (n % 256 ^ i) (256 ^ i * d) (Nat.lt_of_le_of_lt (Nat.mod_le _ _) hn) (by omega) (by rw [horn]; omega)
    rw [horn] at hor
    simp (decide := true) only [FT.get_set, FT.setL, faS_ptr, nilS_ptr, nilS_func, nilS_yield, pickS_bool, ldS_ptr, list_cells, list_ro, partS_none, lenSl_of, lenStr_of, cvInt_of, aminmax_max, aminmax_min, abin_add, abin_sub, abin_mul, abin_eql, abin_neq, abin_lss, abin_leq, abin_gtr, abin_geq, aunary_not, aextract, Option.some.injEq, Prod.mk.injEq, Value.bool.injEq, exists_eq_left', exists_and_left, and_assoc, decide_eq_true_eq, decide_eq_false_iff_not, if_true, if_false, Nat.zero_add, Nat.add_zero, Option.bind_some, true_and, and_true, forall_const, true_implies, Bool.not_eq_true, Bool.false_eq_true, false_implies, ite_self, Nat.mul_one, t0, t3, t5, hp1, hp2, hcv, hw8, hsh, hor]
    refine m_reg ?_
    rw [reg36_6]
    have hwi : IntKind.i64.wrap ((i : Int) + 1) = ((i + 1 : Nat) : Int) := by rw [wrap_i64 (by omega) (by omega)]; rfl
    simp (decide := true) only [FT.get_set, FT.setL, faS_ptr, nilS_ptr, nilS_func, nilS_yield, pickS_bool, ldS_ptr, list_cells, list_ro, partS_none, lenSl_of, lenStr_of, cvInt_of, aminmax_max, aminmax_min, abin_add, abin_sub, abin_mul, abin_eql, abin_neq, abin_lss, abin_leq, abin_gtr, abin_geq, aunary_not, aextract, Option.some.injEq, Prod.mk.injEq, Value.bool.injEq, exists_eq_left', exists_and_left, and_assoc, decide_eq_true_eq, decide_eq_false_iff_not, if_true, if_false, Nat.zero_add, Nat.add_zero, Option.bind_some, true_and, and_true, forall_const, true_implies, Bool.not_eq_true, Bool.false_eq_true, false_implies, ite_self, Nat.mul_one, t5, hwi]
    exact ⟨m - 1, by omega, i + 1, by omega, rfl, by simp [FT.get_set, FT.setL, faS_ptr, nilS_ptr, nilS_func, nilS_yield, pickS_bool, ldS_ptr, list_cells, list_ro, partS_none, lenSl_of, lenStr_of, cvInt_of, aminmax_max, aminmax_min, abin_add, abin_sub, abin_mul, abin_eql, abin_neq, abin_lss, abin_leq, abin_gtr, abin_geq, aunary_not, aextract, t0], by simp [FT.get_set, FT.setL, faS_ptr, nilS_ptr, nilS_func, nilS_yield, pickS_bool, ldS_ptr, list_cells, list_ro, partS_none, lenSl_of, lenStr_of, cvInt_of, aminmax_max, aminmax_min, abin_add, abin_sub, abin_mul, abin_eql, abin_neq, abin_lss, abin_leq, abin_gtr, abin_geq, aunary_not, aextract], by simp [FT.get_set, FT.setL, faS_ptr, nilS_ptr, nilS_func, nilS_yield, pickS_bool, ldS_ptr, list_cells, list_ro, partS_none, lenSl_of, lenStr_of, cvInt_of, aminmax_max, aminmax_min, abin_add, abin_sub, abin_mul, abin_eql, abin_neq, abin_lss, abin_leq, abin_gtr, abin_geq, aunary_not, aextract]⟩
  · have : i = 8 := by have := of_decide_eq_false hlt; omega
    subst this
    simp only [if_true]
    refine m_seq (m_reg ?_)
    rw [reg36_7]
    have : n % 256 ^ 8 = n := Nat.mod_eq_of_lt (by have : (256 : Nat) ^ 8 = 18446744073709551616 := by decide
                                                   omega)
    rw [this] at t3
    refine m_ret ?_
    simp [resM, FT.get_set, FT.setL, faS_ptr, nilS_ptr, nilS_func, nilS_yield, pickS_bool, ldS_ptr, list_cells, list_ro, partS_none, lenSl_of, lenStr_of, cvInt_of, aminmax_max, aminmax_min, abin_add, abin_sub, abin_mul, abin_eql, abin_neq, abin_lss, abin_leq, abin_gtr, abin_geq, aunary_not, aextract, oneOrTuple, t3]
    exact hq

/-! ### small ones -/
theorem weight21 {S : MS} {v : Value} {bs : List UInt8} (h : RB S v bs) (hl : bs.length ≤ 4611686018427387904) {Q : Value → MS → Prop} (hq : Q (.int .i64 ((bs.length + 8 : Nat) : Int)) S) : CallM Try.prog O 21 [v] S Q := by
  refine callM_body (fnIs is21 body21 res21) (O_none (by decide)) (by simp) ?_
  refine m_seq (m_reg ?_)
  rw [reg21_0]
  refine m_seq (m_reg ?_)
  rw [reg21_1]
  have hw : IntKind.i64.wrap ((bs.length : Int) + 8) = ((bs.length + 8 : Nat) : Int) := by rw [wrap_i64 (by omega) (by omega)]; rfl
  simp (decide := true) only [FT.get_set, FT.setL, faS_ptr, nilS_ptr, nilS_func, nilS_yield, pickS_bool, ldS_ptr, list_cells, list_ro, partS_none, lenSl_of, lenStr_of, cvInt_of, aminmax_max, aminmax_min, abin_add, abin_sub, abin_mul, abin_eql, abin_neq, abin_lss, abin_leq, abin_gtr, abin_geq, aunary_not, aextract, Option.some.injEq, Prod.mk.injEq, Value.bool.injEq, exists_eq_left', exists_and_left, and_assoc, decide_eq_true_eq, decide_eq_false_iff_not, if_true, if_false, Nat.zero_add, Nat.add_zero, Option.bind_some, true_and, and_true, forall_const, true_implies, Bool.not_eq_true, Bool.false_eq_true, false_implies, ite_self, Nat.mul_one, h.len, hw]
  refine m_ret ?_
  simp [resM, FT.get_set, FT.setL, faS_ptr, nilS_ptr, nilS_func, nilS_yield, pickS_bool, ldS_ptr, list_cells, list_ro, partS_none, lenSl_of, lenStr_of, cvInt_of, aminmax_max, aminmax_min, abin_add, abin_sub, abin_mul, abin_eql, abin_neq, abin_lss, abin_leq, abin_gtr, abin_geq, aunary_not, aextract, oneOrTuple]
  exact hq
theorem under32 : Try.prog.underlying 32 = some (.slice 5) := by kernel_rfl
theorem eql32_nil (x y : Operand) : abin Try.prog .eql 32 x y (.slice none 0 0) (.slice none 0 0) = some (.bool true) := by
  have e0 : abin Try.prog .eql 32 x y (.slice none 0 0) (.slice none 0 0) = aeqOp Try.prog .eql 32 x y (.slice none 0 0) (.slice none 0 0) := by unfold abin; rfl
  rw [e0]
  unfold aeqOp
  rw [show Op.maxDepth = (Op.maxDepth - 1) + 1 from rfl, aeq_snil_nil _ _ _ under32]
  rfl
theorem eql32_own (x y : Operand) (a : Addr) (n c : Nat) : abin Try.prog .eql 32 x y (.slice (some a) n c) (.slice none 0 0) = some (.bool false) := by
  have e0 : abin Try.prog .eql 32 x y (.slice (some a) n c) (.slice none 0 0) = aeqOp Try.prog .eql 32 x y (.slice (some a) n c) (.slice none 0 0) := by unfold abin; rfl
  rw [e0]
  unfold aeqOp
  rw [show Op.maxDepth = (Op.maxDepth - 1) + 1 from rfl, aeq_slice_nil _ _ _ _ _ _ under32]
  rfl

/-- a slice of the code's own reads so -/
theorem RB.own {S : MS} {B : Nat} {v : Value} {bs : List UInt8} (h : SlF bF 1 S B v bs) : RB S v bs := by
  have hlim : (1000000 : Nat) < unk := by decide
  cases h with
  | non => exact .nil
  | own hb hB hc hj =>
    rename_i b cap junk
    rw [bF_flat] at hb
    have hl : (bL (bs ++ junk)).length = bs.length + junk.length := by rw [bL_len, List.length_append]
    refine .inr (.inr ⟨b, 0, cap, _, rfl, list_of hb, by rw [hl]; omega, ?_, ?_, ?_⟩)
    · show ((bL (bs ++ junk)).drop 0).take bs.length = bL bs
      rw [List.drop_zero, bL_append, List.take_left' (bL_len bs)]
    · rcases hc with rfl | ⟨h1, h2⟩
      · simp at hj; omega
      · simp at h2; omega
    · rcases hc with rfl | ⟨h1, h2⟩
      · exact .inr ⟨rfl, _, hb, by rw [hl]; simp at hj; omega⟩
      · exact .inl h1
end Go.Proofs.Ytmfmbadfgnhonaa

