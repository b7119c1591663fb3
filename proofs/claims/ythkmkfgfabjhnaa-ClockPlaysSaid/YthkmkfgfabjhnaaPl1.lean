/-
  The walk through both clocks' code: what its functions do to memory, part Pl1. Nothing is asked.
-/
import Derived.Test.YthkmkfgfabjhnaaPlW
import Derived.Test.YthkmkfgfabjhnaaPlG
set_option linter.all false
namespace Go.Proofs.Ythkmkfgfabjhnaa
open Go Go.Ag
set_option linter.unusedVariables false
set_option maxRecDepth 100000

def O : Known := fun f args => if f = 6 ∧ args = [] then some (.bool true) else none
theorem O_none {f : FuncId} {args : List Value} (h : f ≠ 6) : O f args = none := by unfold O; rw [if_neg (fun e => h e.1)]

/-- a timer -/
structure Tm where
  t : Int
  n : Int
  nm : ByteArray
  aa : Option Addr
  an : Nat
  ac : Nat
def tmL (a : Tm) : List Value := [.int .i64 a.t, .int .i64 a.n, .string a.nm, .slice a.aa a.an a.ac]
theorem tm_len (a : Tm) : (tmL a).length = 4 := rfl
theorem tm_one (a : Tm) : (tmL a).all oneCell = true := rfl
theorem tl0 (a : Tm) : (tmL a)[0]? = some (.int .i64 a.t) := rfl
theorem tl1 (a : Tm) : (tmL a)[1]? = some (.int .i64 a.n) := rfl
theorem partS_tm (a : Tm) : partS (some 4) (tmL a) 0 = some (.agg (tmL a).toArray) := rfl
theorem tm_cells (a : Tm) : (Value.cells (.agg (tmL a).toArray)).toList = tmL a := rfl
def tm0 : Tm := ⟨0, 0, ⟨⟨[]⟩⟩, none, 0, 0⟩

def lt (a b : Tm) : Prop := a.t < b.t ∨ (a.t = b.t ∧ a.n < b.n)
instance (a b : Tm) : Decidable (lt a b) := by unfold lt; exact inferInstance
def cmpI (a b : Int) : Int := if a < b then -1 else if a > b then 1 else 0
def ordV (a b : Tm) : Int := if cmpI a.t b.t ≠ 0 then cmpI a.t b.t else cmpI a.n b.n
theorem ord_lt (a b : Tm) : (ordV a b < 0) ↔ lt a b := by
  unfold ordV cmpI lt
  repeat' split
  all_goals omega

theorem isNaN36 {S : MS} (a : Int) {Q : Value → MS → Prop} (hq : Q (.bool false) S) : CallM Try.prog O 36 [.int .i64 a] S Q := by
  refine callM_body (fnIs is36 body36 res36) (O_none (by decide)) (by simp) ?_
  refine m_seq (m_reg ?_)
  rw [reg36_0]
  refine m_seq (m_reg ?_)
  rw [reg36_1]
  simp (decide := true) only [FT.get_set, FT.setL, faS_ptr, nilS_ptr, nilS_func, nilS_yield, pickS_bool, ldS_ptr, list_cells, list_ro, partS_none, lenSl_of, lenStr_of, cvInt_of, aminmax_max, aminmax_min, abin_add, abin_sub, abin_mul, abin_eql, abin_neq, abin_lss, abin_leq, abin_gtr, abin_geq, aunary_not, aextract, Option.some.injEq, Prod.mk.injEq, Value.bool.injEq, exists_eq_left', exists_and_left, and_assoc, decide_eq_true_eq, decide_eq_false_iff_not, if_true, if_false, Nat.zero_add, Nat.add_zero, Option.bind_some, true_and, and_true, forall_const, true_implies, Bool.not_eq_true, Bool.false_eq_true, false_implies, ite_self, Nat.mul_one, bne_self_eq_false]
  refine m_ret ?_
  simp [resM, FT.get_set, FT.setL, faS_ptr, nilS_ptr, nilS_func, nilS_yield, pickS_bool, ldS_ptr, list_cells, list_ro, partS_none, lenSl_of, lenStr_of, cvInt_of, aminmax_max, aminmax_min, abin_add, abin_sub, abin_mul, abin_eql, abin_neq, abin_lss, abin_leq, abin_gtr, abin_geq, aunary_not, aextract, oneOrTuple]
  exact hq
theorem cmp29 {S : MS} (a b : Int) {Q : Value → MS → Prop} (hq : Q (.int .i64 (cmpI a b)) S) : CallM Try.prog O 29 [.int .i64 a, .int .i64 b] S Q := by
  refine callM_body (fnIs is29 body29 res29) (O_none (by decide)) (by simp) ?_
  have fin : ∀ (T' : FT), T'.get 4 = .int .i64 (cmpI a b) → ((match AExit.ret with | .exit _ => False | _ => True) ∧ ∃ vs, resM Try.prog T' S [.tmp 4] = some vs ∧ Q (oneOrTuple vs) S) := by
    intro T' h4
    simp [resM, h4, oneOrTuple]
    exact hq
  refine m_seq (m_reg ?_)
  rw [reg29_0]
  refine m_seq (m_reg ?_)
  rw [reg29_1]
  simp (decide := true) only [FT.get_set, FT.setL, faS_ptr, nilS_ptr, nilS_func, nilS_yield, pickS_bool, ldS_ptr, list_cells, list_ro, partS_none, lenSl_of, lenStr_of, cvInt_of, aminmax_max, aminmax_min, abin_add, abin_sub, abin_mul, abin_eql, abin_neq, abin_lss, abin_leq, abin_gtr, abin_geq, aunary_not, aextract, Option.some.injEq, Prod.mk.injEq, Value.bool.injEq, exists_eq_left', exists_and_left, and_assoc, decide_eq_true_eq, decide_eq_false_iff_not, if_true, if_false, Nat.zero_add, Nat.add_zero, Option.bind_some, true_and, and_true, forall_const, true_implies, Bool.not_eq_true, Bool.false_eq_true, false_implies, ite_self, Nat.mul_one, ]
  refine isNaN36 _ ?_
  refine m_seq (m_reg ?_)
  rw [reg29_2]
  simp (decide := true) only [FT.get_set, FT.setL, faS_ptr, nilS_ptr, nilS_func, nilS_yield, pickS_bool, ldS_ptr, list_cells, list_ro, partS_none, lenSl_of, lenStr_of, cvInt_of, aminmax_max, aminmax_min, abin_add, abin_sub, abin_mul, abin_eql, abin_neq, abin_lss, abin_leq, abin_gtr, abin_geq, aunary_not, aextract, Option.some.injEq, Prod.mk.injEq, Value.bool.injEq, exists_eq_left', exists_and_left, and_assoc, decide_eq_true_eq, decide_eq_false_iff_not, if_true, if_false, Nat.zero_add, Nat.add_zero, Option.bind_some, true_and, and_true, forall_const, true_implies, Bool.not_eq_true, Bool.false_eq_true, false_implies, ite_self, Nat.mul_one, ]
  refine isNaN36 _ ?_
  refine m_seq (m_seq (m_reg ?_))
  rw [reg29_3]
  refine m_cond (t := false) (by simp [evalT, FT.get_set, FT.setL, faS_ptr, nilS_ptr, nilS_func, nilS_yield, pickS_bool, ldS_ptr, list_cells, list_ro, partS_none, lenSl_of, lenStr_of, cvInt_of, aminmax_max, aminmax_min, abin_add, abin_sub, abin_mul, abin_eql, abin_neq, abin_lss, abin_leq, abin_gtr, abin_geq, aunary_not, aextract]) (fun h => by cases h) (fun _ => m_skip ?_)
  simp only
  refine m_seq (m_seq (m_reg ?_))
  rw [reg29_7]
  refine m_cond (t := false) (by simp [evalT, FT.get_set, FT.setL, faS_ptr, nilS_ptr, nilS_func, nilS_yield, pickS_bool, ldS_ptr, list_cells, list_ro, partS_none, lenSl_of, lenStr_of, cvInt_of, aminmax_max, aminmax_min, abin_add, abin_sub, abin_mul, abin_eql, abin_neq, abin_lss, abin_leq, abin_gtr, abin_geq, aunary_not, aextract]) (fun h => by cases h) (fun _ => m_skip ?_)
  simp only
  refine m_seq (m_seq (m_reg ?_))
  rw [reg29_9]
  simp (decide := true) only [FT.get_set, FT.setL, faS_ptr, nilS_ptr, nilS_func, nilS_yield, pickS_bool, ldS_ptr, list_cells, list_ro, partS_none, lenSl_of, lenStr_of, cvInt_of, aminmax_max, aminmax_min, abin_add, abin_sub, abin_mul, abin_eql, abin_neq, abin_lss, abin_leq, abin_gtr, abin_geq, aunary_not, aextract, Option.some.injEq, Prod.mk.injEq, Value.bool.injEq, exists_eq_left', exists_and_left, and_assoc, decide_eq_true_eq, decide_eq_false_iff_not, if_true, if_false, Nat.zero_add, Nat.add_zero, Option.bind_some, true_and, and_true, forall_const, true_implies, Bool.not_eq_true, Bool.false_eq_true, false_implies, ite_self, Nat.mul_one, ]
  refine m_cond (t := decide (a < b)) (by simp [evalT, FT.get_set, FT.setL, faS_ptr, nilS_ptr, nilS_func, nilS_yield, pickS_bool, ldS_ptr, list_cells, list_ro, partS_none, lenSl_of, lenStr_of, cvInt_of, aminmax_max, aminmax_min, abin_add, abin_sub, abin_mul, abin_eql, abin_neq, abin_lss, abin_leq, abin_gtr, abin_geq, aunary_not, aextract]) (fun h => ?_) (fun h => m_skip ?_)
  · refine m_seq (m_reg ?_)
    rw [reg29_10]
    exact m_ret (fin _ (by simp [FT.get_set, FT.setL, faS_ptr, nilS_ptr, nilS_func, nilS_yield, pickS_bool, ldS_ptr, list_cells, list_ro, partS_none, lenSl_of, lenStr_of, cvInt_of, aminmax_max, aminmax_min, abin_add, abin_sub, abin_mul, abin_eql, abin_neq, abin_lss, abin_leq, abin_gtr, abin_geq, aunary_not, aextract, cmpI, of_decide_eq_true h]))
  simp only
  have h1 := of_decide_eq_false h
  refine m_seq (m_seq (m_reg ?_))
  rw [reg29_11]
  simp (decide := true) only [FT.get_set, FT.setL, faS_ptr, nilS_ptr, nilS_func, nilS_yield, pickS_bool, ldS_ptr, list_cells, list_ro, partS_none, lenSl_of, lenStr_of, cvInt_of, aminmax_max, aminmax_min, abin_add, abin_sub, abin_mul, abin_eql, abin_neq, abin_lss, abin_leq, abin_gtr, abin_geq, aunary_not, aextract, Option.some.injEq, Prod.mk.injEq, Value.bool.injEq, exists_eq_left', exists_and_left, and_assoc, decide_eq_true_eq, decide_eq_false_iff_not, if_true, if_false, Nat.zero_add, Nat.add_zero, Option.bind_some, true_and, and_true, forall_const, true_implies, Bool.not_eq_true, Bool.false_eq_true, false_implies, ite_self, Nat.mul_one, ]
  refine m_cond (t := decide (a > b)) (by simp [evalT, FT.get_set, FT.setL, faS_ptr, nilS_ptr, nilS_func, nilS_yield, pickS_bool, ldS_ptr, list_cells, list_ro, partS_none, lenSl_of, lenStr_of, cvInt_of, aminmax_max, aminmax_min, abin_add, abin_sub, abin_mul, abin_eql, abin_neq, abin_lss, abin_leq, abin_gtr, abin_geq, aunary_not, aextract]) (fun h => ?_) (fun h => m_skip ?_)
  · refine m_seq (m_reg ?_)
    rw [reg29_12]
    have h2 := of_decide_eq_true h
    exact m_ret (fin _ (by simp [FT.get_set, FT.setL, faS_ptr, nilS_ptr, nilS_func, nilS_yield, pickS_bool, ldS_ptr, list_cells, list_ro, partS_none, lenSl_of, lenStr_of, cvInt_of, aminmax_max, aminmax_min, abin_add, abin_sub, abin_mul, abin_eql, abin_neq, abin_lss, abin_leq, abin_gtr, abin_geq, aunary_not, aextract, cmpI, h1]; omega))
  simp only
  have h2 := of_decide_eq_false h
  refine m_seq (m_reg ?_)
  rw [reg29_13]
  exact m_ret (fin _ (by simp [FT.get_set, FT.setL, faS_ptr, nilS_ptr, nilS_func, nilS_yield, pickS_bool, ldS_ptr, list_cells, list_ro, partS_none, lenSl_of, lenStr_of, cvInt_of, aminmax_max, aminmax_min, abin_add, abin_sub, abin_mul, abin_eql, abin_neq, abin_lss, abin_leq, abin_gtr, abin_geq, aunary_not, aextract, cmpI, h1]; omega))

def OI (S0 : MS) (a b : Int) (s : Nat) (m : Nat) (T : FT) (S : MS) : Prop :=
  ∃ k : Nat, k + m = 2 ∧ S = S0 ∧ (k ≥ 1 → a = 0) ∧ (k ≥ 2 → b = 0) ∧ T.get 3 = .int .i64 0 ∧ T.get 6 = .slice (some ⟨s, 0, none⟩) 2 2 ∧ T.get 7 = .int .i64 (2 : Nat) ∧ T.get 8 = .int .i64 k

theorem or28 {S : MS} {s : Nat} (a b : Int) (hs : S.m s = some (.cells [.int .i64 a, .int .i64 b] 1)) {Q : Value → MS → Prop} (hq : Q (.int .i64 (if a ≠ 0 then a else b)) S) : CallM Try.prog O 28 [.slice (some ⟨s, 0, none⟩) 2 2] S Q := by
  refine callM_body (fnIs is28 body28 res28) (O_none (by decide)) (by simp) ?_
  have fin : ∀ (T' : FT), T'.get 2 = .int .i64 (if a ≠ 0 then a else b) → ((match AExit.ret with | .exit _ => False | _ => True) ∧ ∃ vs, resM Try.prog T' S [.tmp 2] = some vs ∧ Q (oneOrTuple vs) S) := by
    intro T' h4
    simp only [resM, h4, oneOrTuple]
    exact ⟨trivial, _, rfl, hq⟩
  refine m_seq (m_reg ?_)
  rw [reg28_0]
  refine m_seq (m_reg ?_)
  rw [reg28_1]
  refine m_seq (m_seq (m_reg ?_))
  rw [reg28_2]
  simp (decide := true) only [FT.get_set, FT.setL, faS_ptr, nilS_ptr, nilS_func, nilS_yield, pickS_bool, ldS_ptr, list_cells, list_ro, partS_none, lenSl_of, lenStr_of, cvInt_of, aminmax_max, aminmax_min, abin_add, abin_sub, abin_mul, abin_eql, abin_neq, abin_lss, abin_leq, abin_gtr, abin_geq, aunary_not, aextract, Option.some.injEq, Prod.mk.injEq, Value.bool.injEq, exists_eq_left', exists_and_left, and_assoc, decide_eq_true_eq, decide_eq_false_iff_not, if_true, if_false, Nat.zero_add, Nat.add_zero, Option.bind_some, true_and, and_true, forall_const, true_implies, Bool.not_eq_true, Bool.false_eq_true, false_implies, ite_self, Nat.mul_one, lenSl_of]
  unfold blk28_0
  refine m_block (m_loop (fun m T S' => OI S a b s m T S') 2 ⟨0, rfl, rfl, by omega, by omega, by simp [FT.get_set, FT.setL, faS_ptr, nilS_ptr, nilS_func, nilS_yield, pickS_bool, ldS_ptr, list_cells, list_ro, partS_none, lenSl_of, lenStr_of, cvInt_of, aminmax_max, aminmax_min, abin_add, abin_sub, abin_mul, abin_eql, abin_neq, abin_lss, abin_leq, abin_gtr, abin_geq, aunary_not, aextract], by simp [FT.get_set, FT.setL, faS_ptr, nilS_ptr, nilS_func, nilS_yield, pickS_bool, ldS_ptr, list_cells, list_ro, partS_none, lenSl_of, lenStr_of, cvInt_of, aminmax_max, aminmax_min, abin_add, abin_sub, abin_mul, abin_eql, abin_neq, abin_lss, abin_leq, abin_gtr, abin_geq, aunary_not, aextract], by simp [FT.get_set, FT.setL, faS_ptr, nilS_ptr, nilS_func, nilS_yield, pickS_bool, ldS_ptr, list_cells, list_ro, partS_none, lenSl_of, lenStr_of, cvInt_of, aminmax_max, aminmax_min, abin_add, abin_sub, abin_mul, abin_eql, abin_neq, abin_lss, abin_leq, abin_gtr, abin_geq, aunary_not, aextract], by simp [FT.get_set, FT.setL, faS_ptr, nilS_ptr, nilS_func, nilS_yield, pickS_bool, ldS_ptr, list_cells, list_ro, partS_none, lenSl_of, lenStr_of, cvInt_of, aminmax_max, aminmax_min, abin_add, abin_sub, abin_mul, abin_eql, abin_neq, abin_lss, abin_leq, abin_gtr, abin_geq, aunary_not, aextract]⟩ ?_)
  rintro m T S1 ⟨k, hk, rfl, h1, h2, t3, t6, t7, t8⟩
  refine m_seq (m_reg ?_)
  rw [reg28_3]
  simp (decide := true) only [FT.get_set, FT.setL, faS_ptr, nilS_ptr, nilS_func, nilS_yield, pickS_bool, ldS_ptr, list_cells, list_ro, partS_none, lenSl_of, lenStr_of, cvInt_of, aminmax_max, aminmax_min, abin_add, abin_sub, abin_mul, abin_eql, abin_neq, abin_lss, abin_leq, abin_gtr, abin_geq, aunary_not, aextract, Option.some.injEq, Prod.mk.injEq, Value.bool.injEq, exists_eq_left', exists_and_left, and_assoc, decide_eq_true_eq, decide_eq_false_iff_not, if_true, if_false, Nat.zero_add, Nat.add_zero, Option.bind_some, true_and, and_true, forall_const, true_implies, Bool.not_eq_true, Bool.false_eq_true, false_implies, ite_self, Nat.mul_one, t7, t8]
  refine m_seq (m_cond (t := decide ((k : Int) < (2 : Nat))) (by simp [evalT, FT.get_set, FT.setL, faS_ptr, nilS_ptr, nilS_func, nilS_yield, pickS_bool, ldS_ptr, list_cells, list_ro, partS_none, lenSl_of, lenStr_of, cvInt_of, aminmax_max, aminmax_min, abin_add, abin_sub, abin_mul, abin_eql, abin_neq, abin_lss, abin_leq, abin_gtr, abin_geq, aunary_not, aextract]) (fun hlt => m_skip ?_) (fun hlt => m_exit ?_))
  · have hlt : k < 2 := by have := of_decide_eq_true hlt; omega
    simp only
    obtain ⟨x, hx, hxv⟩ : ∃ x : Int, ([.int .i64 a, .int .i64 b] : List Value)[k]? = some (.int .i64 x) ∧ x = (if k = 0 then a else b) := by
      rcases k with _ | _ | k
      · exact ⟨a, rfl, rfl⟩
      · exact ⟨b, rfl, rfl⟩
      · omega
    have hwk : IntKind.i64.wrap ((k : Int) + 1) = ((k + 1 : Nat) : Int) := by rw [wrap_i64 (by omega) (by omega)]; rfl
    refine m_seq (m_block (m_seq (m_reg ?_)))
    rw [reg28_4]
    simp (decide := true) only [FT.get_set, FT.setL, faS_ptr, nilS_ptr, nilS_func, nilS_yield, pickS_bool, ldS_ptr, list_cells, list_ro, partS_none, lenSl_of, lenStr_of, cvInt_of, aminmax_max, aminmax_min, abin_add, abin_sub, abin_mul, abin_eql, abin_neq, abin_lss, abin_leq, abin_gtr, abin_geq, aunary_not, aextract, Option.some.injEq, Prod.mk.injEq, Value.bool.injEq, exists_eq_left', exists_and_left, and_assoc, decide_eq_true_eq, decide_eq_false_iff_not, if_true, if_false, Nat.zero_add, Nat.add_zero, Option.bind_some, true_and, and_true, forall_const, true_implies, Bool.not_eq_true, Bool.false_eq_true, false_implies, ite_self, Nat.mul_one, t6, t8, iaSS_of (k := .i64) (i := (k : Int)) (by omega) (by omega : (k : Int) < ((2 : Nat) : Int)), Int.toNat_natCast, list_of hs, hx]
    refine m_seq (m_reg ?_)
    rw [reg28_5]
    simp (decide := true) only [FT.get_set, FT.setL, faS_ptr, nilS_ptr, nilS_func, nilS_yield, pickS_bool, ldS_ptr, list_cells, list_ro, partS_none, lenSl_of, lenStr_of, cvInt_of, aminmax_max, aminmax_min, abin_add, abin_sub, abin_mul, abin_eql, abin_neq, abin_lss, abin_leq, abin_gtr, abin_geq, aunary_not, aextract, Option.some.injEq, Prod.mk.injEq, Value.bool.injEq, exists_eq_left', exists_and_left, and_assoc, decide_eq_true_eq, decide_eq_false_iff_not, if_true, if_false, Nat.zero_add, Nat.add_zero, Option.bind_some, true_and, and_true, forall_const, true_implies, Bool.not_eq_true, Bool.false_eq_true, false_implies, ite_self, Nat.mul_one, t3]
    refine m_cond (t := (x != 0)) (by simp [evalT, FT.get_set, FT.setL, faS_ptr, nilS_ptr, nilS_func, nilS_yield, pickS_bool, ldS_ptr, list_cells, list_ro, partS_none, lenSl_of, lenStr_of, cvInt_of, aminmax_max, aminmax_min, abin_add, abin_sub, abin_mul, abin_eql, abin_neq, abin_lss, abin_leq, abin_gtr, abin_geq, aunary_not, aextract]) (fun hne => ?_) (fun he => m_skip ?_)
    · have hne : x ≠ 0 := by simpa using hne
      refine m_seq (m_reg ?_)
      rw [reg28_6]
      refine m_ret (fin _ ?_)
      have : x = if a ≠ 0 then a else b := by
        rw [hxv]
        by_cases hk0 : k = 0
        · rw [if_pos hk0] at hxv ⊢; rw [if_pos (by omega)]
        · rw [if_neg hk0, if_neg (by have := h1 (by omega); omega)]
      simp only [FT.get_set]
      rw [← this]; simp
    · have he : x = 0 := by simpa using he
      simp only
      refine m_reg ?_
      rw [reg28_7]
      simp (decide := true) only [FT.get_set, FT.setL, faS_ptr, nilS_ptr, nilS_func, nilS_yield, pickS_bool, ldS_ptr, list_cells, list_ro, partS_none, lenSl_of, lenStr_of, cvInt_of, aminmax_max, aminmax_min, abin_add, abin_sub, abin_mul, abin_eql, abin_neq, abin_lss, abin_leq, abin_gtr, abin_geq, aunary_not, aextract, Option.some.injEq, Prod.mk.injEq, Value.bool.injEq, exists_eq_left', exists_and_left, and_assoc, decide_eq_true_eq, decide_eq_false_iff_not, if_true, if_false, Nat.zero_add, Nat.add_zero, Option.bind_some, true_and, and_true, forall_const, true_implies, Bool.not_eq_true, Bool.false_eq_true, false_implies, ite_self, Nat.mul_one, t8, hwk]
      refine ⟨m - 1, by omega, k + 1, by omega, rfl, fun _ => ?_, fun hk2 => ?_, by simp [FT.get_set, FT.setL, faS_ptr, nilS_ptr, nilS_func, nilS_yield, pickS_bool, ldS_ptr, list_cells, list_ro, partS_none, lenSl_of, lenStr_of, cvInt_of, aminmax_max, aminmax_min, abin_add, abin_sub, abin_mul, abin_eql, abin_neq, abin_lss, abin_leq, abin_gtr, abin_geq, aunary_not, aextract, t3], by simp [FT.get_set, FT.setL, faS_ptr, nilS_ptr, nilS_func, nilS_yield, pickS_bool, ldS_ptr, list_cells, list_ro, partS_none, lenSl_of, lenStr_of, cvInt_of, aminmax_max, aminmax_min, abin_add, abin_sub, abin_mul, abin_eql, abin_neq, abin_lss, abin_leq, abin_gtr, abin_geq, aunary_not, aextract, t6], by simp [FT.get_set, FT.setL, faS_ptr, nilS_ptr, nilS_func, nilS_yield, pickS_bool, ldS_ptr, list_cells, list_ro, partS_none, lenSl_of, lenStr_of, cvInt_of, aminmax_max, aminmax_min, abin_add, abin_sub, abin_mul, abin_eql, abin_neq, abin_lss, abin_leq, abin_gtr, abin_geq, aunary_not, aextract, t7], by simp [FT.get_set, FT.setL, faS_ptr, nilS_ptr, nilS_func, nilS_yield, pickS_bool, ldS_ptr, list_cells, list_ro, partS_none, lenSl_of, lenStr_of, cvInt_of, aminmax_max, aminmax_min, abin_add, abin_sub, abin_mul, abin_eql, abin_neq, abin_lss, abin_leq, abin_gtr, abin_geq, aunary_not, aextract]⟩
      · by_cases hk0 : k = 0
        · rw [if_pos hk0] at hxv; omega
        · exact h1 (by omega)
      · rw [if_neg (by omega)] at hxv; omega
  · have hlt : ¬ k < 2 := by have := of_decide_eq_false hlt; omega
    have ha := h1 (by omega)
    have hb := h2 (by omega)
    simp only [if_true]
    refine m_seq (m_reg ?_)
    rw [reg28_8]
    refine m_ret (fin _ ?_)
    rw [if_neg (by omega), hb]
    simp [FT.get_set, FT.setL, faS_ptr, nilS_ptr, nilS_func, nilS_yield, pickS_bool, ldS_ptr, list_cells, list_ro, partS_none, lenSl_of, lenStr_of, cvInt_of, aminmax_max, aminmax_min, abin_add, abin_sub, abin_mul, abin_eql, abin_neq, abin_lss, abin_leq, abin_gtr, abin_geq, aunary_not, aextract, t3]

theorem order21 {S : MS} (a b : Tm) {Q : Value → MS → Prop} (hq : ∀ S', Old S S' → Q (.int .i64 (ordV a b)) S') : CallM Try.prog O 21 [.agg (tmL a).toArray, .agg (tmL b).toArray] S Q := by
  refine callM_body (fnIs is21 body21 res21) (O_none (by decide)) (by simp) ?_
  refine m_seq (m_reg ?_)
  rw [reg21_0]
  simp (decide := true) only [FT.get_set, FT.setL, faS_ptr, nilS_ptr, nilS_func, nilS_yield, pickS_bool, ldS_ptr, list_cells, list_ro, partS_none, lenSl_of, lenStr_of, cvInt_of, aminmax_max, aminmax_min, abin_add, abin_sub, abin_mul, abin_eql, abin_neq, abin_lss, abin_leq, abin_gtr, abin_geq, aunary_not, aextract, Option.some.injEq, Prod.mk.injEq, Value.bool.injEq, exists_eq_left', exists_and_left, and_assoc, decide_eq_true_eq, decide_eq_false_iff_not, if_true, if_false, Nat.zero_add, Nat.add_zero, Option.bind_some, true_and, and_true, forall_const, true_implies, Bool.not_eq_true, Bool.false_eq_true, false_implies, ite_self, Nat.mul_one, tm_cells, ptrTo, fresh_n]
  have h2 : ((S.fresh (tmL a) 0).fresh (tmL b) 0).m S.n = some (.cells (tmL a) 0) := by rw [fresh_old _ _ _ (by simp only [fresh_n]; omega), fresh_at]
  have h3 : ((S.fresh (tmL a) 0).fresh (tmL b) 0).m (S.n + 1) = some (.cells (tmL b) 0) := fresh_at (S.fresh (tmL a) 0) _ 0
  refine m_seq (m_draw ?_)
  rw [reg21_1]
  simp (decide := true) only [FT.get_set, FT.setL, faS_ptr, nilS_ptr, nilS_func, nilS_yield, pickS_bool, ldS_ptr, list_cells, list_ro, partS_none, lenSl_of, lenStr_of, cvInt_of, aminmax_max, aminmax_min, abin_add, abin_sub, abin_mul, abin_eql, abin_neq, abin_lss, abin_leq, abin_gtr, abin_geq, aunary_not, aextract, Option.some.injEq, Prod.mk.injEq, Value.bool.injEq, exists_eq_left', exists_and_left, and_assoc, decide_eq_true_eq, decide_eq_false_iff_not, if_true, if_false, Nat.zero_add, Nat.add_zero, Option.bind_some, true_and, and_true, forall_const, true_implies, Bool.not_eq_true, Bool.false_eq_true, false_implies, ite_self, Nat.mul_one, list_of h2, list_of h3, tl0]
  refine cmp29 _ _ ?_
  simp (decide := true) only [FT.get_set, FT.setL, faS_ptr, nilS_ptr, nilS_func, nilS_yield, pickS_bool, ldS_ptr, list_cells, list_ro, partS_none, lenSl_of, lenStr_of, cvInt_of, aminmax_max, aminmax_min, abin_add, abin_sub, abin_mul, abin_eql, abin_neq, abin_lss, abin_leq, abin_gtr, abin_geq, aunary_not, aextract, Option.some.injEq, Prod.mk.injEq, Value.bool.injEq, exists_eq_left', exists_and_left, and_assoc, decide_eq_true_eq, decide_eq_false_iff_not, if_true, if_false, Nat.zero_add, Nat.add_zero, Option.bind_some, true_and, and_true, forall_const, true_implies, Bool.not_eq_true, Bool.false_eq_true, false_implies, ite_self, Nat.mul_one, list_of h2, list_of h3, tl1, veq_int]
  refine cmp29 _ _ ?_
  have e : bsS ((S.fresh (tmL a) 0).fresh (tmL b) 0) 2 1 [.int .i64 0, .int .i64 0] [(0, .int .i64 (cmpI a.t b.t)), (1, .int .i64 (cmpI a.n b.n))] = some (.slice (some ⟨S.n + 2, 0, none⟩) 2 2, ((S.fresh (tmL a) 0).fresh (tmL b) 0).fresh [.int .i64 (cmpI a.t b.t), .int .i64 (cmpI a.n b.n)] 1) := by
    unfold bsS
    simp [fillL, spliceL, cells_int, fresh_n]
  simp (decide := true) only [FT.get_set, FT.setL, faS_ptr, nilS_ptr, nilS_func, nilS_yield, pickS_bool, ldS_ptr, list_cells, list_ro, partS_none, lenSl_of, lenStr_of, cvInt_of, aminmax_max, aminmax_min, abin_add, abin_sub, abin_mul, abin_eql, abin_neq, abin_lss, abin_leq, abin_gtr, abin_geq, aunary_not, aextract, Option.some.injEq, Prod.mk.injEq, Value.bool.injEq, exists_eq_left', exists_and_left, and_assoc, decide_eq_true_eq, decide_eq_false_iff_not, if_true, if_false, Nat.zero_add, Nat.add_zero, Option.bind_some, true_and, and_true, forall_const, true_implies, Bool.not_eq_true, Bool.false_eq_true, false_implies, ite_self, Nat.mul_one, e]
  refine or28 _ _ (fresh_at ((S.fresh (tmL a) 0).fresh (tmL b) 0) _ 1) ?_
  refine m_ret ?_
  simp only [resM, FT.get_set, oneOrTuple]
  refine ⟨trivial, _, rfl, ?_⟩
  exact hq _ ((old_fresh _ _ _).trans ((old_fresh _ _ _).trans (old_fresh _ _ _)))
end Go.Proofs.Ythkmkfgfabjhnaa

