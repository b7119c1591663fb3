/-
  The walk through the journal's code: what its functions do to memory, part FmJ2. Nothing is asked.
-/
import Derived.Test.YtmfmbadfgnhonaaFmJ1
set_option linter.all false
namespace Go.Proofs.Ytmfmbadfgnhonaa
open Go Go.Ag
set_option linter.unusedVariables false
set_option maxRecDepth 100000

theorem abin_shr' (P : Program) (t : TypeId) (x y : Operand) (k k' : IntKind) (a : Nat) (n : Nat) (hn : n ≤ k.bits) : abin P .shr t x y (.int k a) (.int k' n) = some (.int k ((a / 2 ^ n : Nat) : Int)) := by
  have h1 : ¬ ((n : Int) < 0) := by omega
  have h2 : (n : Int).toNat = n := by omega
  have h3 : (a : Int).fdiv (2 ^ n) = ((a / 2 ^ n : Nat) : Int) := by
    rw [Int.fdiv_eq_ediv_of_nonneg _ (by exact Int.pow_nonneg (by omega)), Int.natCast_ediv]; congr 1
  simp [abin, binOp, Op.shift, pureRun, pure, h1, h2, Nat.min_eq_left hn, h3]
theorem abin_shl' (P : Program) (t : TypeId) (x y : Operand) (k k' : IntKind) (a : Nat) (n : Nat) (hn : n ≤ k.bits) : abin P .shl t x y (.int k a) (.int k' n) = some (.int k (k.wrap ((a * 2 ^ n : Nat) : Int))) := by
  have h1 : ¬ ((n : Int) < 0) := by omega
  have h2 : (n : Int).toNat = n := by omega
  have h3 : (a : Int) * (2 ^ n) = ((a * 2 ^ n : Nat) : Int) := by rw [Int.natCast_mul]; congr 1
  simp only [abin, binOp, Op.shift, h1, if_false, h2, Nat.min_eq_left hn, h3]
  rfl
theorem abin_or' (P : Program) (t : TypeId) (x y : Operand) (a b : Nat) (ha : a < 4611686018427387904) (hb : b < 4611686018427387904) (hab : a ||| b < 4611686018427387904) : abin P .or t x y (.int .i64 a) (.int .i64 b) = some (.int .i64 ((a ||| b : Nat) : Int)) := by
  have e : (BitVec.ofInt 64 (a : Int) ||| BitVec.ofInt 64 (b : Int)).toNat = a ||| b := by
    rw [BitVec.toNat_or, BitVec.ofInt_natCast, BitVec.ofInt_natCast, BitVec.toNat_ofNat, BitVec.toNat_ofNat, Nat.mod_eq_of_lt (by omega), Nat.mod_eq_of_lt (by omega)]
  have hw : IntKind.i64.wrap ((a ||| b : Nat) : Int) = ((a ||| b : Nat) : Int) := wrap_i64 (by omega) (by omega)
  have hbits : IntKind.bits .i64 = 64 := rfl
  simp [abin, binOp, Op.intBits, pureRun, pure]
  show IntKind.i64.wrap ((a % 2 ^ 64 ||| b % 2 ^ 64 : Nat) : Int) = _
  rw [Nat.mod_eq_of_lt (by omega), Nat.mod_eq_of_lt (by omega), hw]

/-- a number as eight bytes -/
def num8 (n : Nat) : List UInt8 := (List.range 8).map fun i => UInt8.ofNat (n / 256 ^ i % 256)
theorem num8_len (n : Nat) : (num8 n).length = 8 := by simp [num8]
theorem num8_get (n i : Nat) (h : i < 8) : (num8 n)[i]? = some (UInt8.ofNat (n / 256 ^ i % 256)) := by simp [num8, h]
theorem u8_nat (n : Nat) (h : n < 256) : (UInt8.ofNat n).toNat = n := by simp; omega
theorem pow8 (i : Nat) : 2 ^ (8 * i) = 256 ^ i := by rw [Nat.pow_mul]

theorem num8_step (n i : Nat) (h : i < 8) : (bL ((num8 n).take i ++ List.replicate (8 - i) 0)).set i (.int .u8 ((n / 256 ^ i % 256 : Nat) : Int)) = bL ((num8 n).take (i + 1) ++ List.replicate (8 - (i + 1)) 0) := by
  have hl : ((num8 n).take i).length = i := by rw [List.length_take, num8_len]; omega
  have hr : List.replicate (8 - i) (0 : UInt8) = 0 :: List.replicate (8 - (i + 1)) 0 := by
    rw [show 8 - i = (8 - (i + 1)) + 1 by omega, List.replicate_succ]
  have ht : (num8 n).take (i + 1) = (num8 n).take i ++ [UInt8.ofNat (n / 256 ^ i % 256)] := by rw [List.take_add_one, num8_get n i h]; rfl
  have hv : (((n / 256 ^ i % 256 : Nat) : Int)) = ((UInt8.ofNat (n / 256 ^ i % 256)).toNat : Int) := by rw [u8_nat _ (Nat.mod_lt _ (by omega))]
  rw [ht, hr, bL_append, bL_append, bL_append, List.append_assoc, List.set_append_right _ _ (by rw [bL_len, hl]; omega), bL_len, hl, Nat.sub_self, hv]
  rfl
def NI43 (S : MS) (n : Nat) (m : Nat) (T : FT) (S' : MS) : Prop := ∃ i, i + m = 8 ∧ S'.n = S.n + 1 ∧ (∀ y, y < S.n → S'.m y = S.m y) ∧ S'.m S.n = some (.cells (bL ((num8 n).take i ++ List.replicate (8 - i) 0)) 1) ∧ T.get 0 = .int .i64 n ∧ T.get 3 = .slice (some ⟨S.n, 0, none⟩) 8 8 ∧ T.get 6 = .int .i64 i

theorem number43 {S : MS} (n : Nat) (hn : n < 4611686018427387904) {Q : Value → MS → Prop} (hq : ∀ S', S'.n = S.n + 1 → (∀ y, y < S.n → S'.m y = S.m y) → S'.m S.n = some (.cells (bL (num8 n)) 1) → Q (.slice (some ⟨S.n, 0, none⟩) 8 8) S') : CallM Try.prog O 43 [.int .i64 n] S Q := by
  refine callM_body (fnIs is43 body43 res43) (O_none (by decide)) (by simp) ?_
  refine m_seq (m_reg ?_)
  rw [reg43_0]
  refine m_seq (m_reg ?_)
  rw [reg43_1]
  have hz : zeros [.int .u8 0] 8 = bL (List.replicate 8 0) := rfl
  have hms : msS S 1 1 [.int .u8 0] (.int .i64 8) (.int .i64 8) = some (.slice (some ⟨S.n, 0, none⟩) 8 8, S.fresh (bL (List.replicate 8 0)) 1) := by rw [← hz]; exact msS_of (n := 8) S 1 1 [.int .u8 0] .i64 .i64 (by omega) (by omega)
  simp (decide := true) only [FT.get_set, FT.setL, faS_ptr, nilS_ptr, nilS_func, nilS_yield, pickS_bool, ldS_ptr, list_cells, list_ro, partS_none, lenSl_of, lenStr_of, cvInt_of, aminmax_max, aminmax_min, abin_add, abin_sub, abin_mul, abin_eql, abin_neq, abin_lss, abin_leq, abin_gtr, abin_geq, aunary_not, aextract, Option.some.injEq, Prod.mk.injEq, Value.bool.injEq, exists_eq_left', exists_and_left, and_assoc, decide_eq_true_eq, decide_eq_false_iff_not, if_true, if_false, Nat.zero_add, Nat.add_zero, Option.bind_some, true_and, and_true, forall_const, true_implies, Bool.not_eq_true, Bool.false_eq_true, false_implies, ite_self, Nat.mul_one, hms]
  refine m_seq (m_seq (m_reg ?_))
  rw [reg43_2]
  unfold blk43_0
  refine m_block (m_loop (fun m T S' => NI43 S n m T S') 8 ⟨0, by omega, rfl, fun y hy => fresh_old _ _ _ (Nat.ne_of_lt hy), fresh_at S _ 1, by simp [FT.get_set, FT.setL, faS_ptr, nilS_ptr, nilS_func, nilS_yield, pickS_bool, ldS_ptr, list_cells, list_ro, partS_none, lenSl_of, lenStr_of, cvInt_of, aminmax_max, aminmax_min, abin_add, abin_sub, abin_mul, abin_eql, abin_neq, abin_lss, abin_leq, abin_gtr, abin_geq, aunary_not, aextract], by simp [FT.get_set, FT.setL, faS_ptr, nilS_ptr, nilS_func, nilS_yield, pickS_bool, ldS_ptr, list_cells, list_ro, partS_none, lenSl_of, lenStr_of, cvInt_of, aminmax_max, aminmax_min, abin_add, abin_sub, abin_mul, abin_eql, abin_neq, abin_lss, abin_leq, abin_gtr, abin_geq, aunary_not, aextract], by simp [FT.get_set, FT.setL, faS_ptr, nilS_ptr, nilS_func, nilS_yield, pickS_bool, ldS_ptr, list_cells, list_ro, partS_none, lenSl_of, lenStr_of, cvInt_of, aminmax_max, aminmax_min, abin_add, abin_sub, abin_mul, abin_eql, abin_neq, abin_lss, abin_leq, abin_gtr, abin_geq, aunary_not, aextract]⟩ ?_)
  rintro m T S1 ⟨i, hi, n1, f1, c1, t0, t3, t6⟩
  refine m_seq (m_reg ?_)
  rw [reg43_3]
  simp (decide := true) only [FT.get_set, FT.setL, faS_ptr, nilS_ptr, nilS_func, nilS_yield, pickS_bool, ldS_ptr, list_cells, list_ro, partS_none, lenSl_of, lenStr_of, cvInt_of, aminmax_max, aminmax_min, abin_add, abin_sub, abin_mul, abin_eql, abin_neq, abin_lss, abin_leq, abin_gtr, abin_geq, aunary_not, aextract, Option.some.injEq, Prod.mk.injEq, Value.bool.injEq, exists_eq_left', exists_and_left, and_assoc, decide_eq_true_eq, decide_eq_false_iff_not, if_true, if_false, Nat.zero_add, Nat.add_zero, Option.bind_some, true_and, and_true, forall_const, true_implies, Bool.not_eq_true, Bool.false_eq_true, false_implies, ite_self, Nat.mul_one, t6]
  refine m_seq (m_cond (t := decide ((i : Int) < 8)) (by simp [evalT, FT.get_set, FT.setL, faS_ptr, nilS_ptr, nilS_func, nilS_yield, pickS_bool, ldS_ptr, list_cells, list_ro, partS_none, lenSl_of, lenStr_of, cvInt_of, aminmax_max, aminmax_min, abin_add, abin_sub, abin_mul, abin_eql, abin_neq, abin_lss, abin_leq, abin_gtr, abin_geq, aunary_not, aextract]) (fun hlt => m_skip ?_) (fun hlt => m_exit ?_))
  · have hlt : i < 8 := by have := of_decide_eq_true hlt; omega
    simp only
    unfold blk43_1
    refine m_seq (m_block (m_seq (m_reg ?_)))
    rw [reg43_4]
    refine m_reg ?_
    rw [reg43_5]
    have hw8 : IntKind.i64.wrap (8 * (i : Int)) = ((8 * i : Nat) : Int) := by rw [wrap_i64 (by omega) (by omega)]; omega
    have hsh := abin_shr' Try.prog 3 (.tmp 11) (.tmp 13) .i64 .i64 n (8 * i) (by show 8 * i ≤ 64; omega)
    have hcv : IntKind.u8.wrap ((n / 2 ^ (8 * i) : Nat) : Int) = ((n / 256 ^ i % 256 : Nat) : Int) := by
      rw [pow8]; simp [IntKind.wrap, IntKind.signed, IntKind.bits]
    have hia : iaSS 1 (.slice (some ⟨S.n, 0, none⟩) 8 8) (.int .i64 (i : Int)) = some (.pointer (some ⟨S.n, i, none⟩)) := by rw [iaSS_of (k := .i64) (i := (i : Int)) (by omega) (by omega : (i : Int) < ((8 : Nat) : Int)), Int.toNat_natCast, Nat.zero_add, Nat.mul_one]
    obtain ⟨S2, u1, u2, u3, u4⟩ := st_one (off := i) (v := .int .u8 ((n / 256 ^ i % 256 : Nat) : Int)) c1 (by rw [bL_len, List.length_append, List.length_take, num8_len, List.length_replicate]; omega) rfl rfl
    simp (decide := true) only [FT.get_set, FT.setL, faS_ptr, nilS_ptr, nilS_func, nilS_yield, pickS_bool, ldS_ptr, list_cells, list_ro, partS_none, lenSl_of, lenStr_of, cvInt_of, aminmax_max, aminmax_min, abin_add, abin_sub, abin_mul, abin_eql, abin_neq, abin_lss, abin_leq, abin_gtr, abin_geq, aunary_not, aextract, Option.some.injEq, Prod.mk.injEq, Value.bool.injEq, exists_eq_left', exists_and_left, and_assoc, decide_eq_true_eq, decide_eq_false_iff_not, if_true, if_false, Nat.zero_add, Nat.add_zero, Option.bind_some, true_and, and_true, forall_const, true_implies, Bool.not_eq_true, Bool.false_eq_true, false_implies, ite_self, Nat.mul_one, t0, t3, t6, hw8, hsh, hcv, hia]
    refine ⟨S2, u1, ?_⟩
    refine m_reg ?_
    rw [reg43_6]
    have hwi : IntKind.i64.wrap ((i : Int) + 1) = ((i + 1 : Nat) : Int) := by rw [wrap_i64 (by omega) (by omega)]; rfl
    simp (decide := true) only [FT.get_set, FT.setL, faS_ptr, nilS_ptr, nilS_func, nilS_yield, pickS_bool, ldS_ptr, list_cells, list_ro, partS_none, lenSl_of, lenStr_of, cvInt_of, aminmax_max, aminmax_min, abin_add, abin_sub, abin_mul, abin_eql, abin_neq, abin_lss, abin_leq, abin_gtr, abin_geq, aunary_not, aextract, Option.some.injEq, Prod.mk.injEq, Value.bool.injEq, exists_eq_left', exists_and_left, and_assoc, decide_eq_true_eq, decide_eq_false_iff_not, if_true, if_false, Nat.zero_add, Nat.add_zero, Option.bind_some, true_and, and_true, forall_const, true_implies, Bool.not_eq_true, Bool.false_eq_true, false_implies, ite_self, Nat.mul_one, t6, hwi]
    refine ⟨m - 1, by omega, i + 1, by omega, by omega, fun y hy => by rw [u4 y (by omega), f1 y hy], ?_, by simp [FT.get_set, FT.setL, faS_ptr, nilS_ptr, nilS_func, nilS_yield, pickS_bool, ldS_ptr, list_cells, list_ro, partS_none, lenSl_of, lenStr_of, cvInt_of, aminmax_max, aminmax_min, abin_add, abin_sub, abin_mul, abin_eql, abin_neq, abin_lss, abin_leq, abin_gtr, abin_geq, aunary_not, aextract, t0], by simp [FT.get_set, FT.setL, faS_ptr, nilS_ptr, nilS_func, nilS_yield, pickS_bool, ldS_ptr, list_cells, list_ro, partS_none, lenSl_of, lenStr_of, cvInt_of, aminmax_max, aminmax_min, abin_add, abin_sub, abin_mul, abin_eql, abin_neq, abin_lss, abin_leq, abin_gtr, abin_geq, aunary_not, aextract, t3], by simp [FT.get_set, FT.setL, faS_ptr, nilS_ptr, nilS_func, nilS_yield, pickS_bool, ldS_ptr, list_cells, list_ro, partS_none, lenSl_of, lenStr_of, cvInt_of, aminmax_max, aminmax_min, abin_add, abin_sub, abin_mul, abin_eql, abin_neq, abin_lss, abin_leq, abin_gtr, abin_geq, aunary_not, aextract]⟩
    rw [u2]
    congr 2
    exact num8_step n i hlt
  · have : i = 8 := by have := of_decide_eq_false hlt; omega
    subst this
    simp only [if_true]
    refine m_seq (m_reg ?_)
    rw [reg43_7]
    refine m_ret ?_
    simp [resM, FT.get_set, FT.setL, faS_ptr, nilS_ptr, nilS_func, nilS_yield, pickS_bool, ldS_ptr, list_cells, list_ro, partS_none, lenSl_of, lenStr_of, cvInt_of, aminmax_max, aminmax_min, abin_add, abin_sub, abin_mul, abin_eql, abin_neq, abin_lss, abin_leq, abin_gtr, abin_geq, aunary_not, aextract, oneOrTuple, t3]
    refine hq S1 n1 f1 ?_
    rw [c1]; congr 3
end Go.Proofs.Ytmfmbadfgnhonaa

