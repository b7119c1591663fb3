/-
  The walk through both clocks' code: what its functions do to memory, part Pl3. Nothing is asked.
-/
import Derived.Test.YthkmkfgfabjhnaaPl2
set_option linter.all false
namespace Go.Proofs.Ythkmkfgfabjhnaa
open Go Go.Ag
set_option linter.unusedVariables false
set_option maxRecDepth 100000

theorem nil34 {S : MS} {Q : Value → MS → Prop} (hq : Q (.tuple #[]) S) : CallM Try.prog O 34 [.slice none 0 0, .int .i64 0, .int .i64 (0 : Nat), .func (.func 21) #[] #[]] S Q := by
  refine callM_body (fnIs is34 body34 res34) (O_none (by decide)) (by simp) ?_
  refine m_seq (m_reg ?_)
  rw [reg34_0]
  have hw1 : IntKind.i64.wrap ((0 : Int) + 1) = 1 := by decide
  simp (decide := true) only [FT.get_set, FT.setL, faS_ptr, nilS_ptr, nilS_func, nilS_yield, pickS_bool, ldS_ptr, list_cells, list_ro, partS_none, lenSl_of, lenStr_of, cvInt_of, aminmax_max, aminmax_min, abin_add, abin_sub, abin_mul, abin_eql, abin_neq, abin_lss, abin_leq, abin_gtr, abin_geq, aunary_not, aextract, Option.some.injEq, Prod.mk.injEq, Value.bool.injEq, exists_eq_left', exists_and_left, and_assoc, decide_eq_true_eq, decide_eq_false_iff_not, if_true, if_false, Nat.zero_add, Nat.add_zero, Option.bind_some, true_and, and_true, forall_const, true_implies, Bool.not_eq_true, Bool.false_eq_true, false_implies, ite_self, Nat.mul_one, hw1]
  unfold blk34_0
  refine m_block (m_loop (fun m T S' => S' = S ∧ T.get 2 = .int .i64 (0 : Nat) ∧ T.get 8 = .int .i64 1) 0 ⟨rfl, by simp [FT.get_set, FT.setL, faS_ptr, nilS_ptr, nilS_func, nilS_yield, pickS_bool, ldS_ptr, list_cells, list_ro, partS_none, lenSl_of, lenStr_of, cvInt_of, aminmax_max, aminmax_min, abin_add, abin_sub, abin_mul, abin_eql, abin_neq, abin_lss, abin_leq, abin_gtr, abin_geq, aunary_not, aextract], by simp [FT.get_set, FT.setL, faS_ptr, nilS_ptr, nilS_func, nilS_yield, pickS_bool, ldS_ptr, list_cells, list_ro, partS_none, lenSl_of, lenStr_of, cvInt_of, aminmax_max, aminmax_min, abin_add, abin_sub, abin_mul, abin_eql, abin_neq, abin_lss, abin_leq, abin_gtr, abin_geq, aunary_not, aextract]⟩ ?_)
  rintro m T S2 ⟨rfl, t2, t8⟩
  refine m_seq (m_seq (m_reg ?_))
  rw [reg34_1]
  simp (decide := true) only [FT.get_set, FT.setL, faS_ptr, nilS_ptr, nilS_func, nilS_yield, pickS_bool, ldS_ptr, list_cells, list_ro, partS_none, lenSl_of, lenStr_of, cvInt_of, aminmax_max, aminmax_min, abin_add, abin_sub, abin_mul, abin_eql, abin_neq, abin_lss, abin_leq, abin_gtr, abin_geq, aunary_not, aextract, Option.some.injEq, Prod.mk.injEq, Value.bool.injEq, exists_eq_left', exists_and_left, and_assoc, decide_eq_true_eq, decide_eq_false_iff_not, if_true, if_false, Nat.zero_add, Nat.add_zero, Option.bind_some, true_and, and_true, forall_const, true_implies, Bool.not_eq_true, Bool.false_eq_true, false_implies, ite_self, Nat.mul_one, t2, t8]
  refine m_cond (t := false) (by simp [evalT, FT.get_set, FT.setL, faS_ptr, nilS_ptr, nilS_func, nilS_yield, pickS_bool, ldS_ptr, list_cells, list_ro, partS_none, lenSl_of, lenStr_of, cvInt_of, aminmax_max, aminmax_min, abin_add, abin_sub, abin_mul, abin_eql, abin_neq, abin_lss, abin_leq, abin_gtr, abin_geq, aunary_not, aextract]) (fun h => by cases h) (fun _ => m_exit ?_)
  simp only [if_true]
  simp only [resM, oneOrTuple]
  first | exact ⟨[], rfl, hq⟩ | exact ⟨trivial, [], rfl, hq⟩

theorem stable27 {S : MS} {v : Value} {n : Nat} (hn : n < 20) {Q : Value → MS → Prop} (h : CallM Try.prog O 34 [v, .int .i64 0, .int .i64 n, .func (.func 21) #[] #[]] S fun _ S' => Q (.tuple #[]) S') :
    CallM Try.prog O 27 [v, .int .i64 n, .func (.func 21) #[] #[]] S Q := by
  refine callM_body (fnIs is27 body27 res27) (O_none (by decide)) (by simp) ?_
  refine m_seq (m_reg ?_)
  rw [reg27_0]
  refine m_seq (m_reg ?_)
  rw [reg27_1]
  unfold blk27_0
  refine m_seq (m_block (m_loop (fun m T S' => S' = S ∧ T.get 0 = v ∧ T.get 1 = .int .i64 n ∧ T.get 2 = .func (.func 21) #[] #[] ∧ T.get 6 = .int .i64 20 ∧ T.get 7 = .int .i64 0 ∧ T.get 8 = .int .i64 20) 0 ⟨rfl, by simp [FT.get_set, FT.setL, faS_ptr, nilS_ptr, nilS_func, nilS_yield, pickS_bool, ldS_ptr, list_cells, list_ro, partS_none, lenSl_of, lenStr_of, cvInt_of, aminmax_max, aminmax_min, abin_add, abin_sub, abin_mul, abin_eql, abin_neq, abin_lss, abin_leq, abin_gtr, abin_geq, aunary_not, aextract], by simp [FT.get_set, FT.setL, faS_ptr, nilS_ptr, nilS_func, nilS_yield, pickS_bool, ldS_ptr, list_cells, list_ro, partS_none, lenSl_of, lenStr_of, cvInt_of, aminmax_max, aminmax_min, abin_add, abin_sub, abin_mul, abin_eql, abin_neq, abin_lss, abin_leq, abin_gtr, abin_geq, aunary_not, aextract], by simp [FT.get_set, FT.setL, faS_ptr, nilS_ptr, nilS_func, nilS_yield, pickS_bool, ldS_ptr, list_cells, list_ro, partS_none, lenSl_of, lenStr_of, cvInt_of, aminmax_max, aminmax_min, abin_add, abin_sub, abin_mul, abin_eql, abin_neq, abin_lss, abin_leq, abin_gtr, abin_geq, aunary_not, aextract], by simp [FT.get_set, FT.setL, faS_ptr, nilS_ptr, nilS_func, nilS_yield, pickS_bool, ldS_ptr, list_cells, list_ro, partS_none, lenSl_of, lenStr_of, cvInt_of, aminmax_max, aminmax_min, abin_add, abin_sub, abin_mul, abin_eql, abin_neq, abin_lss, abin_leq, abin_gtr, abin_geq, aunary_not, aextract], by simp [FT.get_set, FT.setL, faS_ptr, nilS_ptr, nilS_func, nilS_yield, pickS_bool, ldS_ptr, list_cells, list_ro, partS_none, lenSl_of, lenStr_of, cvInt_of, aminmax_max, aminmax_min, abin_add, abin_sub, abin_mul, abin_eql, abin_neq, abin_lss, abin_leq, abin_gtr, abin_geq, aunary_not, aextract], by simp [FT.get_set, FT.setL, faS_ptr, nilS_ptr, nilS_func, nilS_yield, pickS_bool, ldS_ptr, list_cells, list_ro, partS_none, lenSl_of, lenStr_of, cvInt_of, aminmax_max, aminmax_min, abin_add, abin_sub, abin_mul, abin_eql, abin_neq, abin_lss, abin_leq, abin_gtr, abin_geq, aunary_not, aextract]⟩ ?_))
  rintro m T S1 ⟨rfl, t0, t1, t2, t6, t7, t8⟩
  refine m_seq (m_seq (m_reg ?_))
  rw [reg27_2]
  simp (decide := true) only [FT.get_set, FT.setL, faS_ptr, nilS_ptr, nilS_func, nilS_yield, pickS_bool, ldS_ptr, list_cells, list_ro, partS_none, lenSl_of, lenStr_of, cvInt_of, aminmax_max, aminmax_min, abin_add, abin_sub, abin_mul, abin_eql, abin_neq, abin_lss, abin_leq, abin_gtr, abin_geq, aunary_not, aextract, Option.some.injEq, Prod.mk.injEq, Value.bool.injEq, exists_eq_left', exists_and_left, and_assoc, decide_eq_true_eq, decide_eq_false_iff_not, if_true, if_false, Nat.zero_add, Nat.add_zero, Option.bind_some, true_and, and_true, forall_const, true_implies, Bool.not_eq_true, Bool.false_eq_true, false_implies, ite_self, Nat.mul_one, t1, t8]
  refine m_cond (t := false) (by simp [evalT, FT.get_set, FT.setL, faS_ptr, nilS_ptr, nilS_func, nilS_yield, pickS_bool, ldS_ptr, list_cells, list_ro, partS_none, lenSl_of, lenStr_of, cvInt_of, aminmax_max, aminmax_min, abin_add, abin_sub, abin_mul, abin_eql, abin_neq, abin_lss, abin_leq, abin_gtr, abin_geq, aunary_not, aextract]; omega) (fun h => by cases h) (fun _ => m_exit ?_)
  simp only [if_true]
  refine m_seq (m_reg ?_)
  rw [reg27_6]
  simp (decide := true) only [FT.get_set, FT.setL, faS_ptr, nilS_ptr, nilS_func, nilS_yield, pickS_bool, ldS_ptr, list_cells, list_ro, partS_none, lenSl_of, lenStr_of, cvInt_of, aminmax_max, aminmax_min, abin_add, abin_sub, abin_mul, abin_eql, abin_neq, abin_lss, abin_leq, abin_gtr, abin_geq, aunary_not, aextract, Option.some.injEq, Prod.mk.injEq, Value.bool.injEq, exists_eq_left', exists_and_left, and_assoc, decide_eq_true_eq, decide_eq_false_iff_not, if_true, if_false, Nat.zero_add, Nat.add_zero, Option.bind_some, true_and, and_true, forall_const, true_implies, Bool.not_eq_true, Bool.false_eq_true, false_implies, ite_self, Nat.mul_one, t0, t1, t2, t7]
  refine h.mono fun _ S' hq => ?_
  unfold blk27_2
  refine m_block (m_loop (fun m T S2 => S2 = S' ∧ T.get 1 = .int .i64 n ∧ T.get 6 = .int .i64 20) 0 ⟨rfl, by simp [FT.get_set, FT.setL, faS_ptr, nilS_ptr, nilS_func, nilS_yield, pickS_bool, ldS_ptr, list_cells, list_ro, partS_none, lenSl_of, lenStr_of, cvInt_of, aminmax_max, aminmax_min, abin_add, abin_sub, abin_mul, abin_eql, abin_neq, abin_lss, abin_leq, abin_gtr, abin_geq, aunary_not, aextract, t1], by simp [FT.get_set, FT.setL, faS_ptr, nilS_ptr, nilS_func, nilS_yield, pickS_bool, ldS_ptr, list_cells, list_ro, partS_none, lenSl_of, lenStr_of, cvInt_of, aminmax_max, aminmax_min, abin_add, abin_sub, abin_mul, abin_eql, abin_neq, abin_lss, abin_leq, abin_gtr, abin_geq, aunary_not, aextract, t6]⟩ ?_)
  rintro m T S2 ⟨rfl, t1, t6⟩
  refine m_seq (m_seq (m_reg ?_))
  rw [reg27_7]
  simp (decide := true) only [FT.get_set, FT.setL, faS_ptr, nilS_ptr, nilS_func, nilS_yield, pickS_bool, ldS_ptr, list_cells, list_ro, partS_none, lenSl_of, lenStr_of, cvInt_of, aminmax_max, aminmax_min, abin_add, abin_sub, abin_mul, abin_eql, abin_neq, abin_lss, abin_leq, abin_gtr, abin_geq, aunary_not, aextract, Option.some.injEq, Prod.mk.injEq, Value.bool.injEq, exists_eq_left', exists_and_left, and_assoc, decide_eq_true_eq, decide_eq_false_iff_not, if_true, if_false, Nat.zero_add, Nat.add_zero, Option.bind_some, true_and, and_true, forall_const, true_implies, Bool.not_eq_true, Bool.false_eq_true, false_implies, ite_self, Nat.mul_one, t1, t6]
  refine m_cond (t := false) (by simp [evalT, FT.get_set, FT.setL, faS_ptr, nilS_ptr, nilS_func, nilS_yield, pickS_bool, ldS_ptr, list_cells, list_ro, partS_none, lenSl_of, lenStr_of, cvInt_of, aminmax_max, aminmax_min, abin_add, abin_sub, abin_mul, abin_eql, abin_neq, abin_lss, abin_leq, abin_gtr, abin_geq, aunary_not, aextract]; omega) (fun h => by cases h) (fun _ => m_exit ?_)
  simp only [if_true]
  simp only [resM, oneOrTuple]
  first | exact ⟨[], rfl, hq⟩ | exact ⟨trivial, [], rfl, hq⟩

theorem sort20 {S : MS} {v : Value} {n : Nat} (hv : lenSl v = some (.int .i64 n)) (hn : n < 20) {Q : Value → MS → Prop} (h : CallM Try.prog O 34 [v, .int .i64 0, .int .i64 n, .func (.func 21) #[] #[]] S fun _ S' => Q (.tuple #[]) S') :
    CallM Try.prog O 20 [v, .func (.func 21) #[] #[]] S Q := by
  refine callM_body (fnIs is20 body20 res20) (O_none (by decide)) (by simp) ?_
  refine m_reg ?_
  rw [reg20_0]
  simp (decide := true) only [FT.get_set, FT.setL, faS_ptr, nilS_ptr, nilS_func, nilS_yield, pickS_bool, ldS_ptr, list_cells, list_ro, partS_none, lenSl_of, lenStr_of, cvInt_of, aminmax_max, aminmax_min, abin_add, abin_sub, abin_mul, abin_eql, abin_neq, abin_lss, abin_leq, abin_gtr, abin_geq, aunary_not, aextract, Option.some.injEq, Prod.mk.injEq, Value.bool.injEq, exists_eq_left', exists_and_left, and_assoc, decide_eq_true_eq, decide_eq_false_iff_not, if_true, if_false, Nat.zero_add, Nat.add_zero, Option.bind_some, true_and, and_true, forall_const, true_implies, Bool.not_eq_true, Bool.false_eq_true, false_implies, ite_self, Nat.mul_one, hv]
  refine stable27 hn (h.mono fun _ S' hq => ?_)
  simp only [resM, oneOrTuple]
  first | exact ⟨[], rfl, hq⟩ | exact ⟨trivial, [], rfl, hq⟩

/-- the same of a slice of the code's own, empty or not -/
theorem sortSl {S : MS} {B : Nat} {v : Value} {l : List Tm} (h : SlF tmL 4 S B v l) (hl : l.length < 20) {Q : Value → MS → Prop} (hq : ∀ S', S.n ≤ S'.n → (∀ y, y < S.n → Av v y → S'.m y = S.m y) → SlF tmL 4 S' B v (isort l) → Q (.tuple #[]) S') :
    CallM Try.prog O 20 [v, .func (.func 21) #[] #[]] S Q := by
  refine sort20 h.lenSl hl ?_
  cases h with
  | own hb hB hc hj =>
    rename_i b cap junk
    refine sort34 hb (by omega) fun S' h1 h2 h3 => hq S' h1 (fun y hy hv => h2 y hy fun e => by subst e; exact hv _ _ rfl) ?_
    rw [← isort_len l]
    exact .own h3 hB (by simpa [isort_len] using hc) (by simpa [isort_len] using hj)
  | non => exact nil34 (hq S (Nat.le_refl _) (fun _ _ _ => rfl) .non)

/-- a clock: where it stands, the next number, what waits (sorted) -/
def IsC (S : MS) (c B : Nat) (now next : Int) (w : Value) (l : List Tm) : Prop := S.m c = some (.cells [.int .i64 now, .int .i64 next, w] 0) ∧ SlF tmL 4 S B w l ∧ Av w c

theorem under35 : Try.prog.underlying 35 = some (.slice 38) := by kernel_rfl
theorem eql_nil (x y : Operand) : abin Try.prog .eql 35 x y (.slice none 0 0) (.slice none 0 0) = some (.bool true) := by
  have e0 : abin Try.prog .eql 35 x y (.slice none 0 0) (.slice none 0 0) = aeqOp Try.prog .eql 35 x y (.slice none 0 0) (.slice none 0 0) := by unfold abin; rfl
  rw [e0]
  unfold aeqOp
  rw [show Op.maxDepth = (Op.maxDepth - 1) + 1 from rfl, aeq_snil_nil _ _ _ under35]
  rfl

end Go.Proofs.Ythkmkfgfabjhnaa

