/-
  The walk through the journal's code: what its functions do to memory, part MoJ2. Nothing is asked.
-/
import Derived.Test.YtmfmbadfgnhonaaMoJ1
set_option linter.all false
namespace Go.Proofs.Ytmfmbadfgnhonaa
open Go Go.Ag
set_option linter.unusedVariables false
set_option maxRecDepth 100000

def RI36 (S : MS) (v : Value) (n : Nat) (m : Nat) (T : FT) (S' : MS) : Prop := ∃ i, i + m = 8 ∧ S' = S ∧ T.get 0 = v ∧ T.get 3 = .int .i64 ((n % 256 ^ i : Nat) : Int) ∧ T.get 5 = .int .i64 i

theorem read36 {S : MS} {v : Value} {bs : List UInt8} (n : Nat) (hn : n < 4611686018427387904) (h : RB S v bs) (hb : bs.take 8 = num8 n) {Q : Value → MS → Prop} (hq : Q (.int .i64 n) S) : CallM Try.prog O 36 [v] S Q := by
  refine callM_body (fnIs is36 body36 res36) (O_none (by decide)) (by simp) ?_
  refine m_seq (m_reg ?_)
  rw [reg36_0]
  refine m_seq (m_reg ?_)
  rw [reg36_1]
  refine m_seq (m_seq (m_reg ?_))
  rw [reg36_2]
  unfold blk36_0
  refine m_block (m_loop (fun m T S' => RI36 S v n m T S') 8 ⟨0, by omega, rfl, by simp [FT.get_set, FT.setL, faS_ptr, nilS_ptr, nilS_func, nilS_yield, pickS_bool, ldS_ptr, list_cells, list_ro, partS_none, lenSl_of, lenStr_of, cvInt_of, aminmax_max, aminmax_min, abin_add, abin_sub, abin_mul, abin_eql, abin_neq, abin_lss, abin_leq, abin_gtr, abin_geq, aunary_not, aextract], by simp [FT.get_set, FT.setL, faS_ptr, nilS_ptr, nilS_func, nilS_yield, pickS_bool, ldS_ptr, list_cells, list_ro, partS_none, lenSl_of, lenStr_of, cvInt_of, aminmax_max, aminmax_min, abin_add, abin_sub, abin_mul, abin_eql, abin_neq, abin_lss, abin_leq, abin_gtr, abin_geq, aunary_not, aextract, Nat.mod_one], by simp [FT.get_set, FT.setL, faS_ptr, nilS_ptr, nilS_func, nilS_yield, pickS_bool, ldS_ptr, list_cells, list_ro, partS_none, lenSl_of, lenStr_of, cvInt_of, aminmax_max, aminmax_min, abin_add, abin_sub, abin_mul, abin_eql, abin_neq, abin_lss, abin_leq, abin_gtr, abin_geq, aunary_not, aextract]⟩ ?_)
  rintro m T S1 ⟨i, hi, rfl, t0, t3, t5⟩
  refine m_seq (m_reg ?_)
  rw [reg36_3]
  simp (decide := true) only [FT.get_set, FT.setL, faS_ptr, nilS_ptr, nilS_func, nilS_yield, pickS_bool, ldS_ptr, list_cells, list_ro, partS_none, lenSl_of, lenStr_of, cvInt_of, aminmax_max, aminmax_min, abin_add, abin_sub, abin_mul, abin_eql, abin_neq, abin_lss, abin_leq, abin_gtr, abin_geq, aunary_not, aextract, Option.some.injEq, Prod.mk.injEq, Value.bool.injEq, exists_eq_left', exists_and_left, and_assoc, decide_eq_true_eq, decide_eq_false_iff_not, if_true, if_false, Nat.zero_add, Nat.add_zero, Option.bind_some, true_and, and_true, forall_const, true_implies, Bool.not_eq_true, Bool.false_eq_true, false_implies, ite_self, Nat.mul_one, t5]
  refine m_seq (m_cond (t := decide ((i : Int) < 8)) (by simp [evalT, FT.get_set, FT.setL, faS_ptr, nilS_ptr, nilS_func, nilS_yield, pickS_bool, ldS_ptr, list_cells, list_ro, partS_none, lenSl_of, lenStr_of, cvInt_of, aminmax_max, aminmax_min, abin_add, abin_sub, abin_mul, abin_eql, abin_neq, abin_lss, abin_leq, abin_gtr, abin_geq, aunary_not, aextract]) (fun hlt => m_skip ?_) (fun hlt => m_exit ?_))
  · have hlt : i < 8 := by have := of_decide_eq_true hlt; omega
    simp only
    unfold blk36_1
    refine m_seq (m_block (m_seq (m_reg ?_)))
    rw [reg36_4]
    refine m_reg ?_
    rw [reg36_5]
    obtain ⟨d, hd⟩ : ∃ d, d = n / 256 ^ i % 256 := ⟨_, rfl⟩
    have hd256 : d < 256 := by rw [hd]; exact Nat.mod_lt _ (by omega)
    have hbi : bs[i]? = some (UInt8.ofNat d) := by
      have h1 : (bs.take 8)[i]? = some (UInt8.ofNat d) := by rw [hb, num8_get n i hlt, hd]
      rwa [List.getElem?_take, if_pos hlt] at h1
    obtain ⟨p, hp1, hp2⟩ := h.at hbi
    rw [u8_nat d hd256] at hp2
    have hcv : IntKind.i64.wrap (d : Int) = d := wrap_i64 (by omega) (by omega)
    have hw8 : IntKind.i64.wrap (8 * (i : Int)) = ((8 * i : Nat) : Int) := by rw [wrap_i64 (by omega) (by omega)]; omega
    have hmod : n % 256 ^ (i + 1) = n % 256 ^ i + 256 ^ i * d := by rw [hd]; exact Nat.mod_pow_succ
    have hle : n % 256 ^ (i + 1) ≤ n := Nat.mod_le _ _
    have hc : d * 2 ^ (8 * i) = 256 ^ i * d := by rw [pow8, Nat.mul_comm]
    have hsh := abin_shl' Try.prog 3 (.tmp 13) (.tmp 15) .i64 .i64 d (8 * i) (by show 8 * i ≤ 64; omega)
    rw [hc, wrap_i64 (by omega) (by omega)] at hsh
    have hlt2 : n % 256 ^ i < 2 ^ (8 * i) := by rw [pow8]; exact Nat.mod_lt _ (Nat.pow_pos (by omega))
    have horn : n % 256 ^ i ||| 256 ^ i * d = n % 256 ^ (i + 1) := by
      rw [hmod, ← pow8, Nat.or_comm, ← Nat.two_pow_add_eq_or_of_lt (by rw [pow8] at hlt2 ⊢; exact hlt2), Nat.add_comm]
    have hor := abin_or' Try.prog 3 (.tmp 8) (.tmp 16) (n % 256 ^ i) (256 ^ i * d) (Nat.lt_of_le_of_lt (Nat.mod_le _ _) hn) (by omega) (by rw [horn]; omega)
    rw [horn] at hor
    simp (decide := true) only [FT.get_set, FT.setL, faS_ptr, nilS_ptr, nilS_func, nilS_yield, pickS_bool, ldS_ptr, list_cells, list_ro, partS_none, lenSl_of, lenStr_of, cvInt_of, aminmax_max, aminmax_min, abin_add, abin_sub, abin_mul, abin_eql, abin_neq, abin_lss, abin_leq, abin_gtr, abin_geq, aunary_not, aextract, Option.some.injEq, Prod.mk.injEq, Value.bool.injEq, exists_eq_left', exists_and_left, and_assoc, decide_eq_true_eq, decide_eq_false_iff_not, if_true, if_false, Nat.zero_add, Nat.add_zero, Option.bind_some, true_and, and_true, forall_const, true_implies, Bool.not_eq_true, Bool.false_eq_true, false_implies, ite_self, Nat.mul_one, t0, t3, t5, hp1, hp2, hcv, hw8, hsh, hor]
    refine m_reg ?_
    rw [reg36_6]
    have hwi : IntKind.i64.wrap ((i : Int) + 1) = ((i + 1 : Nat) : Int) := by rw [wrap_i64 (by omega) (by omega)]; rfl
    simp (decide := true) only [FT.get_set, FT.setL, faS_ptr, nilS_ptr, nilS_func, nilS_yield, pickS_bool, ldS_ptr, list_cells, list_ro, partS_none, lenSl_of, lenStr_of, cvInt_of, aminmax_max, aminmax_min, abin_add, abin_sub, abin_mul, abin_eql, abin_neq, abin_lss, abin_leq, abin_gtr, abin_geq, aunary_not, aextract, Option.some.injEq, Prod.mk.injEq, Value.bool.injEq, exists_eq_left', exists_and_left, and_assoc, decide_eq_true_eq, decide_eq_false_iff_not, if_true, if_false, Nat.zero_add, Nat.add_zero, Option.bind_some, true_and, and_true, forall_const, true_implies, Bool.not_eq_true, Bool.false_eq_true, false_implies, ite_self, Nat.mul_one, t5, hwi]
    exact ⟨m - 1, by omega, i + 1, by omega, rfl, by simp [FT.get_set, FT.setL, faS_ptr, nilS_ptr, nilS_func, nilS_yield, pickS_bool, ldS_ptr, list_cells, list_ro, partS_none, lenSl_of, lenStr_of, cvInt_of, aminmax_max, aminmax_min, abin_add, abin_sub, abin_mul, abin_eql, abin_neq, abin_lss, abin_leq, abin_gtr, abin_geq, aunary_not, aextract, t0], by simp [FT.get_set, FT.setL, faS_ptr, nilS_ptr, nilS_func, nilS_yield, pickS_bool, ldS_ptr, list_cells, list_ro, partS_none, lenSl_of, lenStr_of, cvInt_of, aminmax_max, aminmax_min, abin_add, abin_sub, abin_mul, abin_eql, abin_neq, abin_lss, abin_leq, abin_gtr, abin_geq, aunary_not, aextract], by simp [FT.get_set, FT.setL, faS_ptr, nilS_ptr, nilS_func, nilS_yield, pickS_bool, ldS_ptr, list_cells, list_ro, partS_none, lenSl_of, lenStr_of, cvInt_of, aminmax_max, aminmax_min, abin_add, abin_sub, abin_mul, abin_eql, abin_neq, abin_lss, abin_leq, abin_gtr, abin_geq, aunary_not, aextract]⟩
  · have : i = 8 := by have := of_decide_eq_false hlt; omega
    subst this
    simp only [if_true]
    refine m_seq (m_reg ?_)
    rw [reg36_7]
    have : n % 256 ^ 8 = n := Nat.mod_eq_of_lt (by have : (256 : Nat) ^ 8 = 18446744073709551616 := by decide
                                                   omega)
    rw [this] at t3
    refine m_ret ?_
    simp [resM, FT.get_set, FT.setL, faS_ptr, nilS_ptr, nilS_func, nilS_yield, pickS_bool, ldS_ptr, list_cells, list_ro, partS_none, lenSl_of, lenStr_of, cvInt_of, aminmax_max, aminmax_min, abin_add, abin_sub, abin_mul, abin_eql, abin_neq, abin_lss, abin_leq, abin_gtr, abin_geq, aunary_not, aextract, oneOrTuple, t3]
    exact hq

/-! ### small ones -/
theorem weight21 {S : MS} {v : Value} {bs : List UInt8} (h : RB S v bs) (hl : bs.length ≤ 4611686018427387904) {Q : Value → MS → Prop} (hq : Q (.int .i64 ((bs.length + 8 : Nat) : Int)) S) : CallM Try.prog O 21 [v] S Q := by
  refine callM_body (fnIs is21 body21 res21) (O_none (by decide)) (by simp) ?_
  refine m_seq (m_reg ?_)
  rw [reg21_0]
  refine m_seq (m_reg ?_)
  rw [reg21_1]
  have hw : IntKind.i64.wrap ((bs.length : Int) + 8) = ((bs.length + 8 : Nat) : Int) := by rw [wrap_i64 (by omega) (by omega)]; rfl
  simp (decide := true) only [FT.get_set, FT.setL, faS_ptr, nilS_ptr, nilS_func, nilS_yield, pickS_bool, ldS_ptr, list_cells, list_ro, partS_none, lenSl_of, lenStr_of, cvInt_of, aminmax_max, aminmax_min, abin_add, abin_sub, abin_mul, abin_eql, abin_neq, abin_lss, abin_leq, abin_gtr, abin_geq, aunary_not, aextract, Option.some.injEq, Prod.mk.injEq, Value.bool.injEq, exists_eq_left', exists_and_left, and_assoc, decide_eq_true_eq, decide_eq_false_iff_not, if_true, if_false, Nat.zero_add, Nat.add_zero, Option.bind_some, true_and, and_true, forall_const, true_implies, Bool.not_eq_true, Bool.false_eq_true, false_implies, ite_self, Nat.mul_one, h.len, hw]
  refine m_ret ?_
  simp [resM, FT.get_set, FT.setL, faS_ptr, nilS_ptr, nilS_func, nilS_yield, pickS_bool, ldS_ptr, list_cells, list_ro, partS_none, lenSl_of, lenStr_of, cvInt_of, aminmax_max, aminmax_min, abin_add, abin_sub, abin_mul, abin_eql, abin_neq, abin_lss, abin_leq, abin_gtr, abin_geq, aunary_not, aextract, oneOrTuple]
  exact hq
theorem under32 : Try.prog.underlying 32 = some (.slice 5) := by kernel_rfl
theorem eql32_nil (x y : Operand) : abin Try.prog .eql 32 x y (.slice none 0 0) (.slice none 0 0) = some (.bool true) := by
  have e0 : abin Try.prog .eql 32 x y (.slice none 0 0) (.slice none 0 0) = aeqOp Try.prog .eql 32 x y (.slice none 0 0) (.slice none 0 0) := by unfold abin; rfl
  rw [e0]
  unfold aeqOp
  rw [show Op.maxDepth = (Op.maxDepth - 1) + 1 from rfl, aeq_snil_nil _ _ _ under32]
  rfl
theorem eql32_own (x y : Operand) (a : Addr) (n c : Nat) : abin Try.prog .eql 32 x y (.slice (some a) n c) (.slice none 0 0) = some (.bool false) := by
  have e0 : abin Try.prog .eql 32 x y (.slice (some a) n c) (.slice none 0 0) = aeqOp Try.prog .eql 32 x y (.slice (some a) n c) (.slice none 0 0) := by unfold abin; rfl
  rw [e0]
  unfold aeqOp
  rw [show Op.maxDepth = (Op.maxDepth - 1) + 1 from rfl, aeq_slice_nil _ _ _ _ _ _ under32]
  rfl

/-- a slice of the code's own reads so -/
theorem RB.own {S : MS} {B : Nat} {v : Value} {bs : List UInt8} (h : SlF bF 1 S B v bs) : RB S v bs := by
  have hlim : (1000000 : Nat) < unk := by decide
  cases h with
  | non => exact .nil
  | own hb hB hc hj =>
    rename_i b cap junk
    rw [bF_flat] at hb
    have hl : (bL (bs ++ junk)).length = bs.length + junk.length := by rw [bL_len, List.length_append]
    refine .inr (.inr ⟨b, 0, cap, _, rfl, list_of hb, by rw [hl]; omega, ?_, ?_, ?_⟩)
    · show ((bL (bs ++ junk)).drop 0).take bs.length = bL bs
      rw [List.drop_zero, bL_append, List.take_left' (bL_len bs)]
    · rcases hc with rfl | ⟨h1, h2⟩
      · simp at hj; omega
      · simp at h2; omega
    · rcases hc with rfl | ⟨h1, h2⟩
      · exact .inr ⟨rfl, _, hb, by rw [hl]; simp at hj; omega⟩
      · exact .inl h1
end Go.Proofs.Ytmfmbadfgnhonaa
namespace Go.Proofs.Ytmfmbadfgnhonaa
open Go Go.Ag
set_option linter.unusedVariables false
set_option maxRecDepth 100000

theorem clone40 {S : MS} {v : Value} {bs : List UInt8} (h : RB S v bs) (hl : bs.length ≤ 400000) {Q : Value → MS → Prop} (hq : ∀ v' S', Old S S' → SlF bF 1 S' S.n v' bs → Q v' S') : CallM Try.prog O 40 [v] S Q := by
  refine callM_wf fun wf => ?_
  refine callM_body (fnIs is40 body40 res40) (O_none (by decide)) (by simp) ?_
  refine m_seq (m_reg ?_)
  rw [reg40_0]
  refine m_seq (m_seq (m_reg ?_))
  rw [reg40_1]
  have hcase : v = .slice none 0 0 ∧ bs = [] ∨ ∃ a n c, v = .slice (some a) n c := by
    rcases h with h | ⟨rfl, rfl⟩ | ⟨b, off, cap, L, rfl, _⟩
    · exact .inl h
    · exact .inr ⟨_, _, _, rfl⟩
    · exact .inr ⟨_, _, _, rfl⟩
  rcases hcase with ⟨rfl, rfl⟩ | ⟨a, n, c, rfl⟩
  · simp (decide := true) only [FT.get_set, FT.setL, faS_ptr, nilS_ptr, nilS_func, nilS_yield, pickS_bool, ldS_ptr, list_cells, list_ro, partS_none, lenSl_of, lenStr_of, cvInt_of, aminmax_max, aminmax_min, abin_add, abin_sub, abin_mul, abin_eql, abin_neq, abin_lss, abin_leq, abin_gtr, abin_geq, aunary_not, aextract, Option.some.injEq, Prod.mk.injEq, Value.bool.injEq, exists_eq_left', exists_and_left, and_assoc, decide_eq_true_eq, decide_eq_false_iff_not, if_true, if_false, Nat.zero_add, Nat.add_zero, Option.bind_some, true_and, and_true, forall_const, true_implies, Bool.not_eq_true, Bool.false_eq_true, false_implies, ite_self, Nat.mul_one, eql32_nil]
    refine m_cond (t := true) (by simp [evalT, FT.get_set, FT.setL, faS_ptr, nilS_ptr, nilS_func, nilS_yield, pickS_bool, ldS_ptr, list_cells, list_ro, partS_none, lenSl_of, lenStr_of, cvInt_of, aminmax_max, aminmax_min, abin_add, abin_sub, abin_mul, abin_eql, abin_neq, abin_lss, abin_leq, abin_gtr, abin_geq, aunary_not, aextract]) (fun _ => ?_) (fun h => by cases h)
    refine m_seq (m_reg ?_)
    rw [reg40_2]
    refine m_ret ?_
    simp [resM, FT.get_set, FT.setL, faS_ptr, nilS_ptr, nilS_func, nilS_yield, pickS_bool, ldS_ptr, list_cells, list_ro, partS_none, lenSl_of, lenStr_of, cvInt_of, aminmax_max, aminmax_min, abin_add, abin_sub, abin_mul, abin_eql, abin_neq, abin_lss, abin_leq, abin_gtr, abin_geq, aunary_not, aextract, oneOrTuple]
    exact hq _ _ (Old.refl S) .non
  · simp (decide := true) only [FT.get_set, FT.setL, faS_ptr, nilS_ptr, nilS_func, nilS_yield, pickS_bool, ldS_ptr, list_cells, list_ro, partS_none, lenSl_of, lenStr_of, cvInt_of, aminmax_max, aminmax_min, abin_add, abin_sub, abin_mul, abin_eql, abin_neq, abin_lss, abin_leq, abin_gtr, abin_geq, aunary_not, aextract, Option.some.injEq, Prod.mk.injEq, Value.bool.injEq, exists_eq_left', exists_and_left, and_assoc, decide_eq_true_eq, decide_eq_false_iff_not, if_true, if_false, Nat.zero_add, Nat.add_zero, Option.bind_some, true_and, and_true, forall_const, true_implies, Bool.not_eq_true, Bool.false_eq_true, false_implies, ite_self, Nat.mul_one, eql32_own]
    refine m_cond (t := false) (by simp [evalT, FT.get_set, FT.setL, faS_ptr, nilS_ptr, nilS_func, nilS_yield, pickS_bool, ldS_ptr, list_cells, list_ro, partS_none, lenSl_of, lenStr_of, cvInt_of, aminmax_max, aminmax_min, abin_add, abin_sub, abin_mul, abin_eql, abin_neq, abin_lss, abin_leq, abin_gtr, abin_geq, aunary_not, aextract]) (fun h => by cases h) (fun _ => m_skip ?_)
    simp only
    refine m_seq (m_reg ?_)
    rw [reg40_3]
    have e0 : bsS S 0 1 [] [] = some (.slice (some ⟨S.n, 0, none⟩) 0 0, S.fresh [] 1) := rfl
    have wf1 := wf_fresh' wf [] 1
    have hnil : SlF bF 1 (S.fresh [] 1) S.n (.slice (some ⟨S.n, 0, none⟩) 0 0) [] := .own (l := []) (junk := []) (fresh_at S [] 1) (Nat.le_refl _) (.inr ⟨by decide, rfl⟩) (by simp)
    have h1 := h.keep wf (old_fresh S [] 1).2
    obtain ⟨v', S1, a1, a2, a3, a4, a5⟩ := hnil.app2 (bytes := 1) (z := [.int .u8 0]) bF_len bF_one (by decide) (x := .slice (some a) n c) (new := bs) wf1 (by simp only [fresh_n]; omega) h1.lenA h1.flat (by simp; omega) (by simp; omega)
    rw [List.nil_append] at a2
    simp (decide := true) only [FT.get_set, FT.setL, faS_ptr, nilS_ptr, nilS_func, nilS_yield, pickS_bool, ldS_ptr, list_cells, list_ro, partS_none, lenSl_of, lenStr_of, cvInt_of, aminmax_max, aminmax_min, abin_add, abin_sub, abin_mul, abin_eql, abin_neq, abin_lss, abin_leq, abin_gtr, abin_geq, aunary_not, aextract, Option.some.injEq, Prod.mk.injEq, Value.bool.injEq, exists_eq_left', exists_and_left, and_assoc, decide_eq_true_eq, decide_eq_false_iff_not, if_true, if_false, Nat.zero_add, Nat.add_zero, Option.bind_some, true_and, and_true, forall_const, true_implies, Bool.not_eq_true, Bool.false_eq_true, false_implies, ite_self, Nat.mul_one, e0, a1]
    refine m_ret ?_
    simp [resM, FT.get_set, FT.setL, faS_ptr, nilS_ptr, nilS_func, nilS_yield, pickS_bool, ldS_ptr, list_cells, list_ro, partS_none, lenSl_of, lenStr_of, cvInt_of, aminmax_max, aminmax_min, abin_add, abin_sub, abin_mul, abin_eql, abin_neq, abin_lss, abin_leq, abin_gtr, abin_geq, aunary_not, aextract, oneOrTuple]
    refine hq _ _ ⟨by simp only [fresh_n] at a3; omega, fun y hy => ?_⟩ a2
    rw [a4 y (by simp only [fresh_n]; omega) (fun l c e => by cases e; omega), fresh_old _ _ _ (by omega)]

/-- a record, as it is laid down -/
def laid (bs : List UInt8) : List UInt8 := num8 bs.length ++ bs
theorem laid_len (bs : List UInt8) : (laid bs).length = bs.length + 8 := by simp [laid, num8_len]; omega

theorem SlF.num {S S' : MS} {n : Nat} (h : S'.m S.n = some (.cells (bL (num8 n)) 1)) : SlF bF 1 S' S.n (.slice (some ⟨S.n, 0, none⟩) 8 8) (num8 n) := by
  have := SlF.own (f := bF) (sz := 1) (S := S') (B := S.n) (b := S.n) (cap := 8) (l := num8 n) (junk := []) (by rw [List.append_nil, bF_flat]; exact h) (Nat.le_refl _) (.inr ⟨by decide, by rw [List.append_nil, num8_len]⟩) (by rw [List.append_nil, num8_len]; omega)
  rwa [num8_len] at this

theorem laid31 {S : MS} {v : Value} {bs : List UInt8} (h : RB S v bs) (hl : bs.length ≤ 400000) {Q : Value → MS → Prop} (hq : ∀ v' S', Old S S' → SlF bF 1 S' S.n v' (laid bs) → Q v' S') : CallM Try.prog O 31 [v] S Q := by
  refine callM_wf fun wf => ?_
  refine callM_body (fnIs is31 body31 res31) (O_none (by decide)) (by simp) ?_
  refine m_seq (m_reg ?_)
  rw [reg31_0]
  refine m_seq (m_reg ?_)
  rw [reg31_1]
  simp (decide := true) only [FT.get_set, FT.setL, faS_ptr, nilS_ptr, nilS_func, nilS_yield, pickS_bool, ldS_ptr, list_cells, list_ro, partS_none, lenSl_of, lenStr_of, cvInt_of, aminmax_max, aminmax_min, abin_add, abin_sub, abin_mul, abin_eql, abin_neq, abin_lss, abin_leq, abin_gtr, abin_geq, aunary_not, aextract, Option.some.injEq, Prod.mk.injEq, Value.bool.injEq, exists_eq_left', exists_and_left, and_assoc, decide_eq_true_eq, decide_eq_false_iff_not, if_true, if_false, Nat.zero_add, Nat.add_zero, Option.bind_some, true_and, and_true, forall_const, true_implies, Bool.not_eq_true, Bool.false_eq_true, false_implies, ite_self, Nat.mul_one, h.len]
  refine callM_wf_post (number43 bs.length (by omega) fun S1 n1 f1 c1 wf1 => ?_)
  have h1 := h.keep wf f1
  obtain ⟨v', S2, a1, a2, a3, a4, a5⟩ := (SlF.num c1).app2 (bytes := 1) (z := [.int .u8 0]) bF_len bF_one (by decide) (x := v) (new := bs) wf1 (by omega) h1.lenA h1.flat (by rw [num8_len]; omega) (by rw [num8_len]; omega)
  simp (decide := true) only [FT.get_set, FT.setL, faS_ptr, nilS_ptr, nilS_func, nilS_yield, pickS_bool, ldS_ptr, list_cells, list_ro, partS_none, lenSl_of, lenStr_of, cvInt_of, aminmax_max, aminmax_min, abin_add, abin_sub, abin_mul, abin_eql, abin_neq, abin_lss, abin_leq, abin_gtr, abin_geq, aunary_not, aextract, Option.some.injEq, Prod.mk.injEq, Value.bool.injEq, exists_eq_left', exists_and_left, and_assoc, decide_eq_true_eq, decide_eq_false_iff_not, if_true, if_false, Nat.zero_add, Nat.add_zero, Option.bind_some, true_and, and_true, forall_const, true_implies, Bool.not_eq_true, Bool.false_eq_true, false_implies, ite_self, Nat.mul_one, a1]
  refine m_ret ?_
  simp [resM, FT.get_set, FT.setL, faS_ptr, nilS_ptr, nilS_func, nilS_yield, pickS_bool, ldS_ptr, list_cells, list_ro, partS_none, lenSl_of, lenStr_of, cvInt_of, aminmax_max, aminmax_min, abin_add, abin_sub, abin_mul, abin_eql, abin_neq, abin_lss, abin_leq, abin_gtr, abin_geq, aunary_not, aextract, oneOrTuple]
  refine hq _ _ ⟨by omega, fun y hy => ?_⟩ a2
  rw [a4 y (by omega) (fun l c e => by cases e; omega), f1 y hy]

/-- two slices of the same bytes -/
theorem equal37 {S : MS} {v v' : Value} {bs : List UInt8} (h : RB S v bs) (h' : RB S v' bs) {Q : Value → MS → Prop} (hq : Q (.bool true) S) : CallM Try.prog O 37 [v, v'] S Q := by
  refine callM_body (fnIs is37 body37 res37) (O_none (by decide)) (by simp) ?_
  refine m_seq (m_reg ?_)
  rw [reg37_0]
  refine m_seq (m_reg ?_)
  rw [reg37_1]
  simp (decide := true) only [FT.get_set, FT.setL, faS_ptr, nilS_ptr, nilS_func, nilS_yield, pickS_bool, ldS_ptr, list_cells, list_ro, partS_none, lenSl_of, lenStr_of, cvInt_of, aminmax_max, aminmax_min, abin_add, abin_sub, abin_mul, abin_eql, abin_neq, abin_lss, abin_leq, abin_gtr, abin_geq, aunary_not, aextract, Option.some.injEq, Prod.mk.injEq, Value.bool.injEq, exists_eq_left', exists_and_left, and_assoc, decide_eq_true_eq, decide_eq_false_iff_not, if_true, if_false, Nat.zero_add, Nat.add_zero, Option.bind_some, true_and, and_true, forall_const, true_implies, Bool.not_eq_true, Bool.false_eq_true, false_implies, ite_self, Nat.mul_one, h.str, h'.str, abin_str_eql, beq_self_eq_true]
  refine m_ret ?_
  simp [resM, FT.get_set, FT.setL, faS_ptr, nilS_ptr, nilS_func, nilS_yield, pickS_bool, ldS_ptr, list_cells, list_ro, partS_none, lenSl_of, lenStr_of, cvInt_of, aminmax_max, aminmax_min, abin_add, abin_sub, abin_mul, abin_eql, abin_neq, abin_lss, abin_leq, abin_gtr, abin_geq, aunary_not, aextract, oneOrTuple]
  exact hq

/-! ### places -/
theorem capacity29 {S : MS} {d : Nat} {D : DK} (h : IsD S d D) (hn : D.made.length ≤ 16384) {Q : Value → MS → Prop} (hq : Q (.int .i64 ((32 * D.made.length : Nat) : Int)) S) : CallM Try.prog O 29 [.pointer (some ⟨d, 0, none⟩)] S Q := by
  refine callM_body (fnIs is29 body29 res29) (O_none (by decide)) (by simp) ?_
  refine m_seq (m_reg ?_)
  rw [reg29_0]
  refine m_seq (m_reg ?_)
  rw [reg29_1]
  simp (decide := true) only [FT.get_set, FT.setL, faS_ptr, nilS_ptr, nilS_func, nilS_yield, pickS_bool, ldS_ptr, list_cells, list_ro, partS_none, lenSl_of, lenStr_of, cvInt_of, aminmax_max, aminmax_min, abin_add, abin_sub, abin_mul, abin_eql, abin_neq, abin_lss, abin_leq, abin_gtr, abin_geq, aunary_not, aextract, Option.some.injEq, Prod.mk.injEq, Value.bool.injEq, exists_eq_left', exists_and_left, and_assoc, decide_eq_true_eq, decide_eq_false_iff_not, if_true, if_false, Nat.zero_add, Nat.add_zero, Option.bind_some, true_and, and_true, forall_const, true_implies, Bool.not_eq_true, Bool.false_eq_true, false_implies, ite_self, Nat.mul_one, ]
  refine blocksD h ?_
  have hw : IntKind.i64.wrap (32 * (D.made.length : Int)) = ((32 * D.made.length : Nat) : Int) := by rw [wrap_i64 (by omega) (by omega)]; omega
  simp (decide := true) only [FT.get_set, FT.setL, faS_ptr, nilS_ptr, nilS_func, nilS_yield, pickS_bool, ldS_ptr, list_cells, list_ro, partS_none, lenSl_of, lenStr_of, cvInt_of, aminmax_max, aminmax_min, abin_add, abin_sub, abin_mul, abin_eql, abin_neq, abin_lss, abin_leq, abin_gtr, abin_geq, aunary_not, aextract, Option.some.injEq, Prod.mk.injEq, Value.bool.injEq, exists_eq_left', exists_and_left, and_assoc, decide_eq_true_eq, decide_eq_false_iff_not, if_true, if_false, Nat.zero_add, Nat.add_zero, Option.bind_some, true_and, and_true, forall_const, true_implies, Bool.not_eq_true, Bool.false_eq_true, false_implies, ite_self, Nat.mul_one, hw]
  refine m_ret ?_
  simp [resM, FT.get_set, FT.setL, faS_ptr, nilS_ptr, nilS_func, nilS_yield, pickS_bool, ldS_ptr, list_cells, list_ro, partS_none, lenSl_of, lenStr_of, cvInt_of, aminmax_max, aminmax_min, abin_add, abin_sub, abin_mul, abin_eql, abin_neq, abin_lss, abin_leq, abin_gtr, abin_geq, aunary_not, aextract, oneOrTuple]
  exact hq
def placeN (n half : Nat) : Nat := 1 + half * ((n - 1) / 2)
theorem place33 {S : MS} {d : Nat} {D : DK} (h : IsD S d D) {half : Nat} (hh : half ≤ 1) (hn : 1 ≤ D.made.length ∧ D.made.length ≤ 16384) {Q : Value → MS → Prop} (hq : Q (.int .i64 (placeN D.made.length half : Nat)) S) : CallM Try.prog O 33 [.pointer (some ⟨d, 0, none⟩), .int .i64 half] S Q := by
  refine callM_body (fnIs is33 body33 res33) (O_none (by decide)) (by simp) ?_
  refine m_seq (m_reg ?_)
  rw [reg33_0]
  refine m_seq (m_reg ?_)
  rw [reg33_1]
  simp (decide := true) only [FT.get_set, FT.setL, faS_ptr, nilS_ptr, nilS_func, nilS_yield, pickS_bool, ldS_ptr, list_cells, list_ro, partS_none, lenSl_of, lenStr_of, cvInt_of, aminmax_max, aminmax_min, abin_add, abin_sub, abin_mul, abin_eql, abin_neq, abin_lss, abin_leq, abin_gtr, abin_geq, aunary_not, aextract, Option.some.injEq, Prod.mk.injEq, Value.bool.injEq, exists_eq_left', exists_and_left, and_assoc, decide_eq_true_eq, decide_eq_false_iff_not, if_true, if_false, Nat.zero_add, Nat.add_zero, Option.bind_some, true_and, and_true, forall_const, true_implies, Bool.not_eq_true, Bool.false_eq_true, false_implies, ite_self, Nat.mul_one, ]
  refine blocksD h ?_
  have w1 : IntKind.i64.wrap ((D.made.length : Int) - 1) = ((D.made.length - 1 : Nat) : Int) := by rw [wrap_i64 (by omega) (by omega)]; omega
  have w2 : ((D.made.length - 1 : Nat) : Int).tdiv 2 = (((D.made.length - 1) / 2 : Nat) : Int) := by rw [Int.tdiv_eq_ediv_of_nonneg (by omega)]; rfl
  have w3 : IntKind.i64.wrap (((D.made.length - 1) / 2 : Nat) : Int) = (((D.made.length - 1) / 2 : Nat) : Int) := wrap_i64 (by omega) (by omega)
  have hle : half * ((D.made.length - 1) / 2) ≤ 1 * ((D.made.length - 1) / 2) := Nat.mul_le_mul_right _ hh
  have w4 : IntKind.i64.wrap ((half : Int) * (((D.made.length - 1) / 2 : Nat) : Int)) = ((half * ((D.made.length - 1) / 2) : Nat) : Int) := by rw [← Int.natCast_mul, wrap_i64 (by omega) (by omega)]
  have w5 : IntKind.i64.wrap (1 + ((half * ((D.made.length - 1) / 2) : Nat) : Int)) = ((placeN D.made.length half : Nat) : Int) := by rw [wrap_i64 (by omega) (by omega)]; rfl
  have q2 : abin Try.prog .quo 3 (.tmp 8) (.const (.int .i64 2)) (.int .i64 ((D.made.length - 1 : Nat) : Int)) (.int .i64 2) = some (.int .i64 (((D.made.length - 1) / 2 : Nat) : Int)) := by rw [abin_quo _ _ _ _ _ _ _ (by decide), w2, w3]
  simp (decide := true) only [FT.get_set, FT.setL, faS_ptr, nilS_ptr, nilS_func, nilS_yield, pickS_bool, ldS_ptr, list_cells, list_ro, partS_none, lenSl_of, lenStr_of, cvInt_of, aminmax_max, aminmax_min, abin_add, abin_sub, abin_mul, abin_eql, abin_neq, abin_lss, abin_leq, abin_gtr, abin_geq, aunary_not, aextract, Option.some.injEq, Prod.mk.injEq, Value.bool.injEq, exists_eq_left', exists_and_left, and_assoc, decide_eq_true_eq, decide_eq_false_iff_not, if_true, if_false, Nat.zero_add, Nat.add_zero, Option.bind_some, true_and, and_true, forall_const, true_implies, Bool.not_eq_true, Bool.false_eq_true, false_implies, ite_self, Nat.mul_one, w1, q2, w4, w5]
  refine m_ret ?_
  simp [resM, FT.get_set, FT.setL, faS_ptr, nilS_ptr, nilS_func, nilS_yield, pickS_bool, ldS_ptr, list_cells, list_ro, partS_none, lenSl_of, lenStr_of, cvInt_of, aminmax_max, aminmax_min, abin_add, abin_sub, abin_mul, abin_eql, abin_neq, abin_lss, abin_leq, abin_gtr, abin_geq, aunary_not, aextract, oneOrTuple]
  exact hq
end Go.Proofs.Ytmfmbadfgnhonaa

