/-
  The walk through both clocks' code: what its functions do to memory, part Pl9. Nothing is asked.
-/
import Derived.Test.YthkmkfgfabjhnaaPlX
set_option linter.all false
namespace Go.Proofs.Ythkmkfgfabjhnaa
open Go Go.Ag
set_option linter.unusedVariables false
set_option maxRecDepth 100000

theorem bytesLess_irrefl : ∀ l : List UInt8, Op.bytesLess l l = false := by
  intro l
  induction l with
  | nil => rfl
  | cons a l ih => simp [Op.bytesLess, ih]
theorem str_lss (P : Program) (t : TypeId) (x y : Operand) (a : ByteArray) : abin P .lss t x y (.string a) (.string a) = some (.bool false) := by
  simp [abin, binOp, Op.stringOp, pureRun, pure, bytesLess_irrefl]
theorem str_gtr (P : Program) (t : TypeId) (x y : Operand) (a : ByteArray) : abin P .gtr t x y (.string a) (.string a) = some (.bool false) := by
  simp [abin, binOp, Op.stringOp, pureRun, pure, bytesLess_irrefl]
theorem str_neq (P : Program) (t : TypeId) (x y : Operand) (a : ByteArray) : abin P .neq t x y (.string a) (.string a) = some (.bool false) := by
  rw [abin_str_neq]; simp

/-- a value of the language's -/
structure V5 where
  k : Int
  n : Int
  s : ByteArray
  r : Int
  fa : Option Addr
  fn : Nat
  fc : Nat
def v5L (v : V5) : List Value := [.int .i64 v.k, .int .i64 v.n, .string v.s, .int .i64 v.r, .slice v.fa v.fn v.fc]
theorem vl0 (v : V5) : (v5L v)[0]? = some (.int .i64 v.k) := rfl
theorem vl1 (v : V5) : (v5L v)[1]? = some (.int .i64 v.n) := rfl
theorem vl2 (v : V5) : (v5L v)[2]? = some (.string v.s) := rfl
theorem vl3 (v : V5) : (v5L v)[3]? = some (.int .i64 v.r) := rfl
theorem vl4 (v : V5) : (v5L v)[4]? = some (.slice v.fa v.fn v.fc) := rfl
theorem v5_cells (v : V5) : (Value.cells (.agg (v5L v).toArray)).toList = v5L v := rfl
theorem partS_v5 (v : V5) : partS (some 5) (v5L v) 0 = some (.agg (v5L v).toArray) := rfl

/-- a slice of such values, with all within them -/
inductive Vl (S : MS) : Option Addr → Nat → Nat → Prop
  | emp {aa : Option Addr} {ac : Nat} : Vl S aa 0 ac
  | mk {ab an ac : Nat} (L : List Value) (get : Nat → V5) (hL : S.list ab = some L) (hn : an ≤ 1152921504606846976) (cells : ∀ i, i < an → partS (some 5) L (i * 5) = some (.agg (v5L (get i)).toArray)) (rec : ∀ i, i < an → Vl S (get i).fa (get i).fn (get i).fc) : Vl S (some ⟨ab, 0, none⟩) an ac

theorem Vl.keep {S S' : MS} (wf : S.WF) (hk : ∀ x, x < S.n → S'.m x = S.m x) {aa : Option Addr} {an ac : Nat} (h : Vl S aa an ac) : Vl S' aa an ac := by
  induction h with
  | emp => exact .emp
  | mk L get hL hn cells _ ih => exact .mk L get (list_keep wf hk hL) hn cells ih
theorem Vl.small {S : MS} {aa : Option Addr} {an ac : Nat} (h : Vl S aa an ac) : an ≤ 1152921504606846976 := by cases h <;> omega
theorem Vl.at {S : MS} {aa : Option Addr} {an ac i : Nat} (h : Vl S aa an ac) (hi : i < an) : ∃ (b : Nat) (L : List Value) (v : V5), iaSS 5 (.slice aa an ac) (.int .i64 (i : Int)) = some (.pointer (some ⟨b, i * 5, none⟩)) ∧ S.list b = some L ∧ partS (some 5) L (i * 5) = some (.agg (v5L v).toArray) ∧ (∀ k, k < 5 → L[i * 5 + k]? = (v5L v)[k]?) ∧ Vl S v.fa v.fn v.fc := by
  cases h with
  | emp => omega
  | mk L get hL hn cells rec =>
    rename_i ab
    refine ⟨ab, L, get i, ?_, hL, cells i hi, fun k hk => ?_, rec i hi⟩
    · rw [iaSS_of (k := .i64) (i := (i : Int)) (by omega) (by omega : (i : Int) < (an : Int)), Int.toNat_natCast, Nat.zero_add]
    · have h5 := cells i hi
      unfold partS at h5
      simp only at h5
      split at h5
      · have h6 := Option.some.inj h5
        injection h6 with h7
        have h8 := congrArg Array.toList h7
        have h9 : ((L.drop (i * 5)).take 5)[k]? = (v5L (get i))[k]? := by rw [show (L.drop (i * 5)).take 5 = v5L (get i) from by simpa using h8]
        rw [List.getElem?_take, if_pos hk, List.getElem?_drop] at h9
        exact h9
      · cases h5

theorem order39 {S : MS} {Q : Value → MS → Prop} (hq : Q (.int .i64 0) S) : CallM Try.prog O 39 [.bool false, .bool false] S Q := by
  refine callM_body (fnIs is39 body39 res39) (O_none (by decide)) (by simp) ?_
  refine m_seq (m_reg ?_)
  rw [reg39_0]
  unfold blk39_0
  refine m_seq (m_block (m_seq (m_reg ?_)))
  rw [reg39_1]
  refine m_cond (t := false) (by simp [evalT, FT.get_set, FT.setL, faS_ptr, nilS_ptr, nilS_func, nilS_yield, pickS_bool, ldS_ptr, list_cells, list_ro, partS_none, lenSl_of, lenStr_of, cvInt_of, aminmax_max, aminmax_min, abin_add, abin_sub, abin_mul, abin_eql, abin_neq, abin_lss, abin_leq, abin_gtr, abin_geq, aunary_not, aextract]) (fun h => by cases h) (fun _ => ?_)
  refine m_seq (m_reg ?_)
  rw [reg39_3]
  refine m_cond (t := false) (by simp [evalT, FT.get_set, FT.setL, faS_ptr, nilS_ptr, nilS_func, nilS_yield, pickS_bool, ldS_ptr, list_cells, list_ro, partS_none, lenSl_of, lenStr_of, cvInt_of, aminmax_max, aminmax_min, abin_add, abin_sub, abin_mul, abin_eql, abin_neq, abin_lss, abin_leq, abin_gtr, abin_geq, aunary_not, aextract]) (fun h => by cases h) (fun _ => m_skip ?_)
  simp only
  refine m_seq (m_reg ?_)
  rw [reg39_5]
  refine m_ret ?_
  simp [resM, FT.get_set, FT.setL, faS_ptr, nilS_ptr, nilS_func, nilS_yield, pickS_bool, ldS_ptr, list_cells, list_ro, partS_none, lenSl_of, lenStr_of, cvInt_of, aminmax_max, aminmax_min, abin_add, abin_sub, abin_mul, abin_eql, abin_neq, abin_lss, abin_leq, abin_gtr, abin_geq, aunary_not, aextract, oneOrTuple]
  exact hq

def I37 (S1 : MS) (b : Nat) (fn : Nat) (m : Nat) (T : FT) (S' : MS) : Prop := ∃ i : Nat, i + m = fn ∧ Old S1 S' ∧ T.get 2 = .pointer (some ⟨b, 0, none⟩) ∧ T.get 3 = .pointer (some ⟨b + 1, 0, none⟩) ∧ T.get 5 = .int .i64 0 ∧ T.get 6 = .int .i64 i
theorem cmp_step {S0 : MS} (wf0 : S0.WF) (v : V5) (hn : v.fn ≤ 1152921504606846976)
    (hat : ∀ i, i < v.fn → ∃ (b : Nat) (L : List Value) (u : V5), iaSS 5 (.slice v.fa v.fn v.fc) (.int .i64 (i : Int)) = some (.pointer (some ⟨b, i * 5, none⟩)) ∧ S0.list b = some L ∧ partS (some 5) L (i * 5) = some (.agg (v5L u).toArray) ∧ ∀ (S : MS) (Q : Value → MS → Prop), Old S0 S → (∀ S', Old S S' → Q (.int .i64 0) S') → CallM Try.prog O 37 [.agg (v5L u).toArray, .agg (v5L u).toArray] S Q)
    {S : MS} {Q : Value → MS → Prop} (hold : Old S0 S) (hq : ∀ S', Old S S' → Q (.int .i64 0) S') : CallM Try.prog O 37 [.agg (v5L v).toArray, .agg (v5L v).toArray] S Q := by
  refine callM_body (fnIs is37 body37 res37) (O_none (by decide)) (by simp) ?_
  refine m_seq (m_reg ?_)
  rw [reg37_0]
  simp (decide := true) only [FT.get_set, FT.setL, faS_ptr, nilS_ptr, nilS_func, nilS_yield, pickS_bool, ldS_ptr, list_cells, list_ro, partS_none, lenSl_of, lenStr_of, cvInt_of, aminmax_max, aminmax_min, abin_add, abin_sub, abin_mul, abin_eql, abin_neq, abin_lss, abin_leq, abin_gtr, abin_geq, aunary_not, aextract, Option.some.injEq, Prod.mk.injEq, Value.bool.injEq, exists_eq_left', exists_and_left, and_assoc, decide_eq_true_eq, decide_eq_false_iff_not, if_true, if_false, Nat.zero_add, Nat.add_zero, Option.bind_some, true_and, and_true, forall_const, true_implies, Bool.not_eq_true, Bool.false_eq_true, false_implies, ite_self, Nat.mul_one, v5_cells, ptrTo, fresh_n]
  have f1 : Old S ((S.fresh (v5L v) 0).fresh (v5L v) 0) := (old_fresh _ _ _).trans (old_fresh _ _ _)
  have h2 : ((S.fresh (v5L v) 0).fresh (v5L v) 0).m S.n = some (.cells (v5L v) 0) := by rw [fresh_old _ _ _ (by simp only [fresh_n]; omega), fresh_at]
  have h3 : ((S.fresh (v5L v) 0).fresh (v5L v) 0).m (S.n + 1) = some (.cells (v5L v) 0) := fresh_at (S.fresh (v5L v) 0) _ 0
  have irr : ∀ x : Int, decide (x < x) = false := fun x => decide_eq_false (Int.lt_irrefl x)
  have irr' : ∀ x : Int, decide (x > x) = false := fun x => decide_eq_false (Int.lt_irrefl x)
  refine m_seq (m_reg ?_)
  rw [reg37_1]
  simp (decide := true) only [FT.get_set, FT.setL, faS_ptr, nilS_ptr, nilS_func, nilS_yield, pickS_bool, ldS_ptr, list_cells, list_ro, partS_none, lenSl_of, lenStr_of, cvInt_of, aminmax_max, aminmax_min, abin_add, abin_sub, abin_mul, abin_eql, abin_neq, abin_lss, abin_leq, abin_gtr, abin_geq, aunary_not, aextract, Option.some.injEq, Prod.mk.injEq, Value.bool.injEq, exists_eq_left', exists_and_left, and_assoc, decide_eq_true_eq, decide_eq_false_iff_not, if_true, if_false, Nat.zero_add, Nat.add_zero, Option.bind_some, true_and, and_true, forall_const, true_implies, Bool.not_eq_true, Bool.false_eq_true, false_implies, ite_self, Nat.mul_one, list_of h2, list_of h3, vl0, irr, irr']
  refine order39 ?_
  refine m_seq (m_seq (m_reg ?_))
  rw [reg37_2]
  simp (decide := true) only [FT.get_set, FT.setL, faS_ptr, nilS_ptr, nilS_func, nilS_yield, pickS_bool, ldS_ptr, list_cells, list_ro, partS_none, lenSl_of, lenStr_of, cvInt_of, aminmax_max, aminmax_min, abin_add, abin_sub, abin_mul, abin_eql, abin_neq, abin_lss, abin_leq, abin_gtr, abin_geq, aunary_not, aextract, Option.some.injEq, Prod.mk.injEq, Value.bool.injEq, exists_eq_left', exists_and_left, and_assoc, decide_eq_true_eq, decide_eq_false_iff_not, if_true, if_false, Nat.zero_add, Nat.add_zero, Option.bind_some, true_and, and_true, forall_const, true_implies, Bool.not_eq_true, Bool.false_eq_true, false_implies, ite_self, Nat.mul_one, beq_self_eq_true]
  refine m_cond (t := true) (by simp [evalT, FT.get_set, FT.setL, faS_ptr, nilS_ptr, nilS_func, nilS_yield, pickS_bool, ldS_ptr, list_cells, list_ro, partS_none, lenSl_of, lenStr_of, cvInt_of, aminmax_max, aminmax_min, abin_add, abin_sub, abin_mul, abin_eql, abin_neq, abin_lss, abin_leq, abin_gtr, abin_geq, aunary_not, aextract]) (fun _ => m_reg ?_) (fun h => by cases h)
  rw [reg37_3]
  simp (decide := true) only [FT.get_set, FT.setL, faS_ptr, nilS_ptr, nilS_func, nilS_yield, pickS_bool, ldS_ptr, list_cells, list_ro, partS_none, lenSl_of, lenStr_of, cvInt_of, aminmax_max, aminmax_min, abin_add, abin_sub, abin_mul, abin_eql, abin_neq, abin_lss, abin_leq, abin_gtr, abin_geq, aunary_not, aextract, Option.some.injEq, Prod.mk.injEq, Value.bool.injEq, exists_eq_left', exists_and_left, and_assoc, decide_eq_true_eq, decide_eq_false_iff_not, if_true, if_false, Nat.zero_add, Nat.add_zero, Option.bind_some, true_and, and_true, forall_const, true_implies, Bool.not_eq_true, Bool.false_eq_true, false_implies, ite_self, Nat.mul_one, list_of h2, list_of h3, vl1, irr, irr']
  refine order39 ?_
  try simp only
  refine m_seq (m_seq (m_reg ?_))
  rw [reg37_4]
  simp (decide := true) only [FT.get_set, FT.setL, faS_ptr, nilS_ptr, nilS_func, nilS_yield, pickS_bool, ldS_ptr, list_cells, list_ro, partS_none, lenSl_of, lenStr_of, cvInt_of, aminmax_max, aminmax_min, abin_add, abin_sub, abin_mul, abin_eql, abin_neq, abin_lss, abin_leq, abin_gtr, abin_geq, aunary_not, aextract, Option.some.injEq, Prod.mk.injEq, Value.bool.injEq, exists_eq_left', exists_and_left, and_assoc, decide_eq_true_eq, decide_eq_false_iff_not, if_true, if_false, Nat.zero_add, Nat.add_zero, Option.bind_some, true_and, and_true, forall_const, true_implies, Bool.not_eq_true, Bool.false_eq_true, false_implies, ite_self, Nat.mul_one, beq_self_eq_true]
  refine m_cond (t := true) (by simp [evalT, FT.get_set, FT.setL, faS_ptr, nilS_ptr, nilS_func, nilS_yield, pickS_bool, ldS_ptr, list_cells, list_ro, partS_none, lenSl_of, lenStr_of, cvInt_of, aminmax_max, aminmax_min, abin_add, abin_sub, abin_mul, abin_eql, abin_neq, abin_lss, abin_leq, abin_gtr, abin_geq, aunary_not, aextract]) (fun _ => m_reg ?_) (fun h => by cases h)
  rw [reg37_5]
  simp (decide := true) only [FT.get_set, FT.setL, faS_ptr, nilS_ptr, nilS_func, nilS_yield, pickS_bool, ldS_ptr, list_cells, list_ro, partS_none, lenSl_of, lenStr_of, cvInt_of, aminmax_max, aminmax_min, abin_add, abin_sub, abin_mul, abin_eql, abin_neq, abin_lss, abin_leq, abin_gtr, abin_geq, aunary_not, aextract, Option.some.injEq, Prod.mk.injEq, Value.bool.injEq, exists_eq_left', exists_and_left, and_assoc, decide_eq_true_eq, decide_eq_false_iff_not, if_true, if_false, Nat.zero_add, Nat.add_zero, Option.bind_some, true_and, and_true, forall_const, true_implies, Bool.not_eq_true, Bool.false_eq_true, false_implies, ite_self, Nat.mul_one, list_of h2, list_of h3, vl2, str_lss, str_gtr]
  refine order39 ?_
  try simp only
  refine m_seq (m_seq (m_reg ?_))
  rw [reg37_6]
  simp (decide := true) only [FT.get_set, FT.setL, faS_ptr, nilS_ptr, nilS_func, nilS_yield, pickS_bool, ldS_ptr, list_cells, list_ro, partS_none, lenSl_of, lenStr_of, cvInt_of, aminmax_max, aminmax_min, abin_add, abin_sub, abin_mul, abin_eql, abin_neq, abin_lss, abin_leq, abin_gtr, abin_geq, aunary_not, aextract, Option.some.injEq, Prod.mk.injEq, Value.bool.injEq, exists_eq_left', exists_and_left, and_assoc, decide_eq_true_eq, decide_eq_false_iff_not, if_true, if_false, Nat.zero_add, Nat.add_zero, Option.bind_some, true_and, and_true, forall_const, true_implies, Bool.not_eq_true, Bool.false_eq_true, false_implies, ite_self, Nat.mul_one, beq_self_eq_true]
  refine m_cond (t := true) (by simp [evalT, FT.get_set, FT.setL, faS_ptr, nilS_ptr, nilS_func, nilS_yield, pickS_bool, ldS_ptr, list_cells, list_ro, partS_none, lenSl_of, lenStr_of, cvInt_of, aminmax_max, aminmax_min, abin_add, abin_sub, abin_mul, abin_eql, abin_neq, abin_lss, abin_leq, abin_gtr, abin_geq, aunary_not, aextract]) (fun _ => m_reg ?_) (fun h => by cases h)
  rw [reg37_7]
  simp (decide := true) only [FT.get_set, FT.setL, faS_ptr, nilS_ptr, nilS_func, nilS_yield, pickS_bool, ldS_ptr, list_cells, list_ro, partS_none, lenSl_of, lenStr_of, cvInt_of, aminmax_max, aminmax_min, abin_add, abin_sub, abin_mul, abin_eql, abin_neq, abin_lss, abin_leq, abin_gtr, abin_geq, aunary_not, aextract, Option.some.injEq, Prod.mk.injEq, Value.bool.injEq, exists_eq_left', exists_and_left, and_assoc, decide_eq_true_eq, decide_eq_false_iff_not, if_true, if_false, Nat.zero_add, Nat.add_zero, Option.bind_some, true_and, and_true, forall_const, true_implies, Bool.not_eq_true, Bool.false_eq_true, false_implies, ite_self, Nat.mul_one, list_of h2, list_of h3, vl3, irr, irr']
  refine order39 ?_
  try simp only
  refine m_seq (m_seq (m_reg ?_))
  rw [reg37_8]
  unfold blk37_0
  refine m_block (m_loop (fun m T S' => I37 ((S.fresh (v5L v) 0).fresh (v5L v) 0) S.n v.fn m T S') v.fn ⟨0, by omega, Old.refl _, by simp [FT.get_set, FT.setL, faS_ptr, nilS_ptr, nilS_func, nilS_yield, pickS_bool, ldS_ptr, list_cells, list_ro, partS_none, lenSl_of, lenStr_of, cvInt_of, aminmax_max, aminmax_min, abin_add, abin_sub, abin_mul, abin_eql, abin_neq, abin_lss, abin_leq, abin_gtr, abin_geq, aunary_not, aextract], by simp [FT.get_set, FT.setL, faS_ptr, nilS_ptr, nilS_func, nilS_yield, pickS_bool, ldS_ptr, list_cells, list_ro, partS_none, lenSl_of, lenStr_of, cvInt_of, aminmax_max, aminmax_min, abin_add, abin_sub, abin_mul, abin_eql, abin_neq, abin_lss, abin_leq, abin_gtr, abin_geq, aunary_not, aextract], by simp [FT.get_set, FT.setL, faS_ptr, nilS_ptr, nilS_func, nilS_yield, pickS_bool, ldS_ptr, list_cells, list_ro, partS_none, lenSl_of, lenStr_of, cvInt_of, aminmax_max, aminmax_min, abin_add, abin_sub, abin_mul, abin_eql, abin_neq, abin_lss, abin_leq, abin_gtr, abin_geq, aunary_not, aextract], by simp [FT.get_set, FT.setL, faS_ptr, nilS_ptr, nilS_func, nilS_yield, pickS_bool, ldS_ptr, list_cells, list_ro, partS_none, lenSl_of, lenStr_of, cvInt_of, aminmax_max, aminmax_min, abin_add, abin_sub, abin_mul, abin_eql, abin_neq, abin_lss, abin_leq, abin_gtr, abin_geq, aunary_not, aextract]⟩ ?_)
  rintro m T S1 ⟨i, hi, f2, t2, t3, t5, t6⟩
  have h2' := (f2.2 S.n (by simp only [fresh_n]; omega)).trans h2
  have h3' := (f2.2 (S.n + 1) (by simp only [fresh_n]; omega)).trans h3
  refine m_seq (m_seq (m_reg ?_))
  rw [reg37_9]
  by_cases hlt : i < v.fn
  · have e1 : decide ((i : Int) < (v.fn : Int)) = true := decide_eq_true (by omega)
    simp (decide := true) only [FT.get_set, FT.setL, faS_ptr, nilS_ptr, nilS_func, nilS_yield, pickS_bool, ldS_ptr, list_cells, list_ro, partS_none, lenSl_of, lenStr_of, cvInt_of, aminmax_max, aminmax_min, abin_add, abin_sub, abin_mul, abin_eql, abin_neq, abin_lss, abin_leq, abin_gtr, abin_geq, aunary_not, aextract, Option.some.injEq, Prod.mk.injEq, Value.bool.injEq, exists_eq_left', exists_and_left, and_assoc, decide_eq_true_eq, decide_eq_false_iff_not, if_true, if_false, Nat.zero_add, Nat.add_zero, Option.bind_some, true_and, and_true, forall_const, true_implies, Bool.not_eq_true, Bool.false_eq_true, false_implies, ite_self, Nat.mul_one, t2, t3, t5, t6, list_of h2', list_of h3', vl4, lenSl_of, e1, beq_self_eq_true]
    refine m_cond (t := true) (by simp [evalT, FT.get_set, FT.setL, faS_ptr, nilS_ptr, nilS_func, nilS_yield, pickS_bool, ldS_ptr, list_cells, list_ro, partS_none, lenSl_of, lenStr_of, cvInt_of, aminmax_max, aminmax_min, abin_add, abin_sub, abin_mul, abin_eql, abin_neq, abin_lss, abin_leq, abin_gtr, abin_geq, aunary_not, aextract]) (fun _ => m_skip ?_) (fun h => by cases h)
    simp only
    obtain ⟨b, L, u, q1, q2, q3, q4⟩ := hat i hlt
    have q2' : S1.list b = some L := list_keep wf0 ((hold.trans f1).trans f2).2 q2
    have hld : ldS (some 5) S1 (.pointer (some ⟨b, i * 5, none⟩)) = some (.agg (v5L u).toArray) := by rw [ldS_ptr, q2']; exact q3
    unfold blk37_1
    refine m_seq (m_block (m_draw ?_))
    rw [reg37_11]
    simp (decide := true) only [FT.get_set, FT.setL, faS_ptr, nilS_ptr, nilS_func, nilS_yield, pickS_bool, ldS_ptr, list_cells, list_ro, partS_none, lenSl_of, lenStr_of, cvInt_of, aminmax_max, aminmax_min, abin_add, abin_sub, abin_mul, abin_eql, abin_neq, abin_lss, abin_leq, abin_gtr, abin_geq, aunary_not, aextract, Option.some.injEq, Prod.mk.injEq, Value.bool.injEq, exists_eq_left', exists_and_left, and_assoc, decide_eq_true_eq, decide_eq_false_iff_not, if_true, if_false, Nat.zero_add, Nat.add_zero, Option.bind_some, true_and, and_true, forall_const, true_implies, Bool.not_eq_true, Bool.false_eq_true, false_implies, ite_self, Nat.mul_one, t2, t3, t6, list_of h2', list_of h3', vl4, q1, hld]
    refine q4 S1 _ ((hold.trans f1).trans f2) fun S2 f3 => ?_
    refine m_reg ?_
    rw [reg37_10]
    have hw : IntKind.i64.wrap ((i : Int) + 1) = ((i + 1 : Nat) : Int) := by rw [wrap_i64 (by omega) (by omega)]; rfl
    simp (decide := true) only [FT.get_set, FT.setL, faS_ptr, nilS_ptr, nilS_func, nilS_yield, pickS_bool, ldS_ptr, list_cells, list_ro, partS_none, lenSl_of, lenStr_of, cvInt_of, aminmax_max, aminmax_min, abin_add, abin_sub, abin_mul, abin_eql, abin_neq, abin_lss, abin_leq, abin_gtr, abin_geq, aunary_not, aextract, Option.some.injEq, Prod.mk.injEq, Value.bool.injEq, exists_eq_left', exists_and_left, and_assoc, decide_eq_true_eq, decide_eq_false_iff_not, if_true, if_false, Nat.zero_add, Nat.add_zero, Option.bind_some, true_and, and_true, forall_const, true_implies, Bool.not_eq_true, Bool.false_eq_true, false_implies, ite_self, Nat.mul_one, t6, hw]
    exact ⟨m - 1, by omega, i + 1, by omega, f2.trans f3, by simp [FT.get_set, FT.setL, faS_ptr, nilS_ptr, nilS_func, nilS_yield, pickS_bool, ldS_ptr, list_cells, list_ro, partS_none, lenSl_of, lenStr_of, cvInt_of, aminmax_max, aminmax_min, abin_add, abin_sub, abin_mul, abin_eql, abin_neq, abin_lss, abin_leq, abin_gtr, abin_geq, aunary_not, aextract, t2], by simp [FT.get_set, FT.setL, faS_ptr, nilS_ptr, nilS_func, nilS_yield, pickS_bool, ldS_ptr, list_cells, list_ro, partS_none, lenSl_of, lenStr_of, cvInt_of, aminmax_max, aminmax_min, abin_add, abin_sub, abin_mul, abin_eql, abin_neq, abin_lss, abin_leq, abin_gtr, abin_geq, aunary_not, aextract, t3], by simp [FT.get_set, FT.setL, faS_ptr, nilS_ptr, nilS_func, nilS_yield, pickS_bool, ldS_ptr, list_cells, list_ro, partS_none, lenSl_of, lenStr_of, cvInt_of, aminmax_max, aminmax_min, abin_add, abin_sub, abin_mul, abin_eql, abin_neq, abin_lss, abin_leq, abin_gtr, abin_geq, aunary_not, aextract], by simp [FT.get_set, FT.setL, faS_ptr, nilS_ptr, nilS_func, nilS_yield, pickS_bool, ldS_ptr, list_cells, list_ro, partS_none, lenSl_of, lenStr_of, cvInt_of, aminmax_max, aminmax_min, abin_add, abin_sub, abin_mul, abin_eql, abin_neq, abin_lss, abin_leq, abin_gtr, abin_geq, aunary_not, aextract]⟩
  · have e1 : decide ((i : Int) < (v.fn : Int)) = false := decide_eq_false (by omega)
    simp (decide := true) only [FT.get_set, FT.setL, faS_ptr, nilS_ptr, nilS_func, nilS_yield, pickS_bool, ldS_ptr, list_cells, list_ro, partS_none, lenSl_of, lenStr_of, cvInt_of, aminmax_max, aminmax_min, abin_add, abin_sub, abin_mul, abin_eql, abin_neq, abin_lss, abin_leq, abin_gtr, abin_geq, aunary_not, aextract, Option.some.injEq, Prod.mk.injEq, Value.bool.injEq, exists_eq_left', exists_and_left, and_assoc, decide_eq_true_eq, decide_eq_false_iff_not, if_true, if_false, Nat.zero_add, Nat.add_zero, Option.bind_some, true_and, and_true, forall_const, true_implies, Bool.not_eq_true, Bool.false_eq_true, false_implies, ite_self, Nat.mul_one, t2, t3, t5, t6, list_of h2', list_of h3', vl4, lenSl_of, e1, beq_self_eq_true]
    refine m_cond (t := false) (by simp [evalT, FT.get_set, FT.setL, faS_ptr, nilS_ptr, nilS_func, nilS_yield, pickS_bool, ldS_ptr, list_cells, list_ro, partS_none, lenSl_of, lenStr_of, cvInt_of, aminmax_max, aminmax_min, abin_add, abin_sub, abin_mul, abin_eql, abin_neq, abin_lss, abin_leq, abin_gtr, abin_geq, aunary_not, aextract]) (fun h => by cases h) (fun _ => m_exit ?_)
    simp only [if_true]
    refine m_seq (m_seq (m_reg ?_))
    rw [reg37_12]
    simp (decide := true) only [FT.get_set, FT.setL, faS_ptr, nilS_ptr, nilS_func, nilS_yield, pickS_bool, ldS_ptr, list_cells, list_ro, partS_none, lenSl_of, lenStr_of, cvInt_of, aminmax_max, aminmax_min, abin_add, abin_sub, abin_mul, abin_eql, abin_neq, abin_lss, abin_leq, abin_gtr, abin_geq, aunary_not, aextract, Option.some.injEq, Prod.mk.injEq, Value.bool.injEq, exists_eq_left', exists_and_left, and_assoc, decide_eq_true_eq, decide_eq_false_iff_not, if_true, if_false, Nat.zero_add, Nat.add_zero, Option.bind_some, true_and, and_true, forall_const, true_implies, Bool.not_eq_true, Bool.false_eq_true, false_implies, ite_self, Nat.mul_one, t5, beq_self_eq_true]
    refine m_cond (t := true) (by simp [evalT, FT.get_set, FT.setL, faS_ptr, nilS_ptr, nilS_func, nilS_yield, pickS_bool, ldS_ptr, list_cells, list_ro, partS_none, lenSl_of, lenStr_of, cvInt_of, aminmax_max, aminmax_min, abin_add, abin_sub, abin_mul, abin_eql, abin_neq, abin_lss, abin_leq, abin_gtr, abin_geq, aunary_not, aextract]) (fun _ => m_reg ?_) (fun h => by cases h)
    rw [reg37_13]
    simp (decide := true) only [FT.get_set, FT.setL, faS_ptr, nilS_ptr, nilS_func, nilS_yield, pickS_bool, ldS_ptr, list_cells, list_ro, partS_none, lenSl_of, lenStr_of, cvInt_of, aminmax_max, aminmax_min, abin_add, abin_sub, abin_mul, abin_eql, abin_neq, abin_lss, abin_leq, abin_gtr, abin_geq, aunary_not, aextract, Option.some.injEq, Prod.mk.injEq, Value.bool.injEq, exists_eq_left', exists_and_left, and_assoc, decide_eq_true_eq, decide_eq_false_iff_not, if_true, if_false, Nat.zero_add, Nat.add_zero, Option.bind_some, true_and, and_true, forall_const, true_implies, Bool.not_eq_true, Bool.false_eq_true, false_implies, ite_self, Nat.mul_one, t2, t3, list_of h2', list_of h3', vl4, lenSl_of, irr, irr']
    refine order39 ?_
    try simp only
    refine m_seq (m_reg ?_)
    rw [reg37_14]
    refine m_ret ?_
    simp [resM, FT.get_set, FT.setL, faS_ptr, nilS_ptr, nilS_func, nilS_yield, pickS_bool, ldS_ptr, list_cells, list_ro, partS_none, lenSl_of, lenStr_of, cvInt_of, aminmax_max, aminmax_min, abin_add, abin_sub, abin_mul, abin_eql, abin_neq, abin_lss, abin_leq, abin_gtr, abin_geq, aunary_not, aextract, oneOrTuple]
    exact hq _ (f1.trans f2)

/-- a value is itself -/
theorem cmp37 {S0 : MS} (wf0 : S0.WF) {aa : Option Addr} {an ac : Nat} (h : Vl S0 aa an ac) : ∀ (v : V5) (S : MS) (Q : Value → MS → Prop), v.fa = aa → v.fn = an → v.fc = ac → Old S0 S → (∀ S', Old S S' → Q (.int .i64 0) S') → CallM Try.prog O 37 [.agg (v5L v).toArray, .agg (v5L v).toArray] S Q := by
  induction h with
  | emp =>
    rename_i aa ac
    intro v S Q ha hn hc hold hq
    exact cmp_step wf0 v (by omega) (fun i hi => by omega) hold hq
  | mk L get hL hn cells rec ih =>
    rename_i ab an ac
    intro v S Q ha hn' hc hold hq
    refine cmp_step wf0 v (by omega) (fun i hi => ?_) hold hq
    have hi' : i < an := by omega
    refine ⟨ab, L, get i, ?_, hL, cells i hi', fun S1 Q1 h1 h2 => ih i hi' (get i) S1 Q1 rfl rfl rfl h1 h2⟩
    rw [ha, hn', hc, iaSS_of (k := .i64) (i := (i : Int)) (by omega) (by omega : (i : Int) < (an : Int)), Int.toNat_natCast, Nat.zero_add]

theorem same33 {S0 : MS} (wf0 : S0.WF) {v : V5} (h : Vl S0 v.fa v.fn v.fc) {S : MS} {Q : Value → MS → Prop} (hold : Old S0 S) (hq : ∀ S', Old S S' → Q (.bool true) S') : CallM Try.prog O 33 [.agg (v5L v).toArray, .agg (v5L v).toArray] S Q := by
  refine callM_body (fnIs is33 body33 res33) (O_none (by decide)) (by simp) ?_
  refine m_seq (m_reg ?_)
  rw [reg33_0]
  simp (decide := true) only [FT.get_set, FT.setL, faS_ptr, nilS_ptr, nilS_func, nilS_yield, pickS_bool, ldS_ptr, list_cells, list_ro, partS_none, lenSl_of, lenStr_of, cvInt_of, aminmax_max, aminmax_min, abin_add, abin_sub, abin_mul, abin_eql, abin_neq, abin_lss, abin_leq, abin_gtr, abin_geq, aunary_not, aextract, Option.some.injEq, Prod.mk.injEq, Value.bool.injEq, exists_eq_left', exists_and_left, and_assoc, decide_eq_true_eq, decide_eq_false_iff_not, if_true, if_false, Nat.zero_add, Nat.add_zero, Option.bind_some, true_and, and_true, forall_const, true_implies, Bool.not_eq_true, Bool.false_eq_true, false_implies, ite_self, Nat.mul_one, v5_cells, ptrTo, fresh_n]
  have f1 : Old S ((S.fresh (v5L v) 0).fresh (v5L v) 0) := (old_fresh _ _ _).trans (old_fresh _ _ _)
  have h2 : ((S.fresh (v5L v) 0).fresh (v5L v) 0).m S.n = some (.cells (v5L v) 0) := by rw [fresh_old _ _ _ (by simp only [fresh_n]; omega), fresh_at]
  have h3 : ((S.fresh (v5L v) 0).fresh (v5L v) 0).m (S.n + 1) = some (.cells (v5L v) 0) := fresh_at (S.fresh (v5L v) 0) _ 0
  refine m_seq (m_reg ?_)
  rw [reg33_1]
  simp (decide := true) only [FT.get_set, FT.setL, faS_ptr, nilS_ptr, nilS_func, nilS_yield, pickS_bool, ldS_ptr, list_cells, list_ro, partS_none, lenSl_of, lenStr_of, cvInt_of, aminmax_max, aminmax_min, abin_add, abin_sub, abin_mul, abin_eql, abin_neq, abin_lss, abin_leq, abin_gtr, abin_geq, aunary_not, aextract, Option.some.injEq, Prod.mk.injEq, Value.bool.injEq, exists_eq_left', exists_and_left, and_assoc, decide_eq_true_eq, decide_eq_false_iff_not, if_true, if_false, Nat.zero_add, Nat.add_zero, Option.bind_some, true_and, and_true, forall_const, true_implies, Bool.not_eq_true, Bool.false_eq_true, false_implies, ite_self, Nat.mul_one, list_of h2, list_of h3, partS_v5]
  refine cmp37 wf0 h v _ _ rfl rfl rfl (hold.trans f1) fun S2 f2 => ?_
  simp (decide := true) only [FT.get_set, FT.setL, faS_ptr, nilS_ptr, nilS_func, nilS_yield, pickS_bool, ldS_ptr, list_cells, list_ro, partS_none, lenSl_of, lenStr_of, cvInt_of, aminmax_max, aminmax_min, abin_add, abin_sub, abin_mul, abin_eql, abin_neq, abin_lss, abin_leq, abin_gtr, abin_geq, aunary_not, aextract, Option.some.injEq, Prod.mk.injEq, Value.bool.injEq, exists_eq_left', exists_and_left, and_assoc, decide_eq_true_eq, decide_eq_false_iff_not, if_true, if_false, Nat.zero_add, Nat.add_zero, Option.bind_some, true_and, and_true, forall_const, true_implies, Bool.not_eq_true, Bool.false_eq_true, false_implies, ite_self, Nat.mul_one, beq_self_eq_true]
  refine m_ret ?_
  simp [resM, FT.get_set, FT.setL, faS_ptr, nilS_ptr, nilS_func, nilS_yield, pickS_bool, ldS_ptr, list_cells, list_ro, partS_none, lenSl_of, lenStr_of, cvInt_of, aminmax_max, aminmax_min, abin_add, abin_sub, abin_mul, abin_eql, abin_neq, abin_lss, abin_leq, abin_gtr, abin_geq, aunary_not, aextract, oneOrTuple]
  exact hq _ (f1.trans f2)

def I26 (S1 : MS) (v : Value) (an : Nat) (m : Nat) (T : FT) (S' : MS) : Prop := ∃ i : Nat, i + m = an ∧ Old S1 S' ∧ T.get 0 = v ∧ T.get 1 = v ∧ T.get 5 = .int .i64 i
theorem all26 {S0 : MS} (wf0 : S0.WF) {aa : Option Addr} {an ac : Nat} (h : Vl S0 aa an ac) {S : MS} {Q : Value → MS → Prop} (hold : Old S0 S) (hq : ∀ S', Old S S' → Q (.bool true) S') : CallM Try.prog O 26 [.slice aa an ac, .slice aa an ac] S Q := by
  refine callM_body (fnIs is26 body26 res26) (O_none (by decide)) (by simp) ?_
  have hsm := h.small
  refine m_seq (m_reg ?_)
  rw [reg26_0]
  refine m_seq (m_seq (m_reg ?_))
  rw [reg26_1]
  simp (decide := true) only [FT.get_set, FT.setL, faS_ptr, nilS_ptr, nilS_func, nilS_yield, pickS_bool, ldS_ptr, list_cells, list_ro, partS_none, lenSl_of, lenStr_of, cvInt_of, aminmax_max, aminmax_min, abin_add, abin_sub, abin_mul, abin_eql, abin_neq, abin_lss, abin_leq, abin_gtr, abin_geq, aunary_not, aextract, Option.some.injEq, Prod.mk.injEq, Value.bool.injEq, exists_eq_left', exists_and_left, and_assoc, decide_eq_true_eq, decide_eq_false_iff_not, if_true, if_false, Nat.zero_add, Nat.add_zero, Option.bind_some, true_and, and_true, forall_const, true_implies, Bool.not_eq_true, Bool.false_eq_true, false_implies, ite_self, Nat.mul_one, lenSl_of, bne_self_eq_false]
  refine m_cond (t := false) (by simp [evalT, FT.get_set, FT.setL, faS_ptr, nilS_ptr, nilS_func, nilS_yield, pickS_bool, ldS_ptr, list_cells, list_ro, partS_none, lenSl_of, lenStr_of, cvInt_of, aminmax_max, aminmax_min, abin_add, abin_sub, abin_mul, abin_eql, abin_neq, abin_lss, abin_leq, abin_gtr, abin_geq, aunary_not, aextract]) (fun h => by cases h) (fun _ => m_skip ?_)
  simp only
  refine m_seq (m_seq (m_reg ?_))
  rw [reg26_3]
  unfold blk26_0
  refine m_block (m_loop (fun m T S' => I26 S (.slice aa an ac) an m T S') an ⟨0, by omega, Old.refl _, by simp [FT.get_set, FT.setL, faS_ptr, nilS_ptr, nilS_func, nilS_yield, pickS_bool, ldS_ptr, list_cells, list_ro, partS_none, lenSl_of, lenStr_of, cvInt_of, aminmax_max, aminmax_min, abin_add, abin_sub, abin_mul, abin_eql, abin_neq, abin_lss, abin_leq, abin_gtr, abin_geq, aunary_not, aextract], by simp [FT.get_set, FT.setL, faS_ptr, nilS_ptr, nilS_func, nilS_yield, pickS_bool, ldS_ptr, list_cells, list_ro, partS_none, lenSl_of, lenStr_of, cvInt_of, aminmax_max, aminmax_min, abin_add, abin_sub, abin_mul, abin_eql, abin_neq, abin_lss, abin_leq, abin_gtr, abin_geq, aunary_not, aextract], by simp [FT.get_set, FT.setL, faS_ptr, nilS_ptr, nilS_func, nilS_yield, pickS_bool, ldS_ptr, list_cells, list_ro, partS_none, lenSl_of, lenStr_of, cvInt_of, aminmax_max, aminmax_min, abin_add, abin_sub, abin_mul, abin_eql, abin_neq, abin_lss, abin_leq, abin_gtr, abin_geq, aunary_not, aextract]⟩ ?_)
  rintro m T S1 ⟨i, hi, f2, t0, t1, t5⟩
  refine m_seq (m_seq (m_reg ?_))
  rw [reg26_4]
  simp (decide := true) only [FT.get_set, FT.setL, faS_ptr, nilS_ptr, nilS_func, nilS_yield, pickS_bool, ldS_ptr, list_cells, list_ro, partS_none, lenSl_of, lenStr_of, cvInt_of, aminmax_max, aminmax_min, abin_add, abin_sub, abin_mul, abin_eql, abin_neq, abin_lss, abin_leq, abin_gtr, abin_geq, aunary_not, aextract, Option.some.injEq, Prod.mk.injEq, Value.bool.injEq, exists_eq_left', exists_and_left, and_assoc, decide_eq_true_eq, decide_eq_false_iff_not, if_true, if_false, Nat.zero_add, Nat.add_zero, Option.bind_some, true_and, and_true, forall_const, true_implies, Bool.not_eq_true, Bool.false_eq_true, false_implies, ite_self, Nat.mul_one, t0, t5, lenSl_of]
  refine m_cond (t := decide ((i : Int) < an)) (by simp [evalT, FT.get_set, FT.setL, faS_ptr, nilS_ptr, nilS_func, nilS_yield, pickS_bool, ldS_ptr, list_cells, list_ro, partS_none, lenSl_of, lenStr_of, cvInt_of, aminmax_max, aminmax_min, abin_add, abin_sub, abin_mul, abin_eql, abin_neq, abin_lss, abin_leq, abin_gtr, abin_geq, aunary_not, aextract]) (fun hlt => m_skip ?_) (fun hlt => m_exit ?_)
  · have hlt : i < an := by have := of_decide_eq_true hlt; omega
    simp only
    obtain ⟨b, L, u, q1, q2, q3, q4, q5⟩ := h.at hlt
    have q2' : S1.list b = some L := list_keep wf0 (hold.trans f2).2 q2
    have hld : ldS (some 5) S1 (.pointer (some ⟨b, i * 5, none⟩)) = some (.agg (v5L u).toArray) := by rw [ldS_ptr, q2']; exact q3
    unfold blk26_1
    refine m_seq (m_block (m_seq (m_draw ?_)))
    rw [reg26_6]
    simp (decide := true) only [FT.get_set, FT.setL, faS_ptr, nilS_ptr, nilS_func, nilS_yield, pickS_bool, ldS_ptr, list_cells, list_ro, partS_none, lenSl_of, lenStr_of, cvInt_of, aminmax_max, aminmax_min, abin_add, abin_sub, abin_mul, abin_eql, abin_neq, abin_lss, abin_leq, abin_gtr, abin_geq, aunary_not, aextract, Option.some.injEq, Prod.mk.injEq, Value.bool.injEq, exists_eq_left', exists_and_left, and_assoc, decide_eq_true_eq, decide_eq_false_iff_not, if_true, if_false, Nat.zero_add, Nat.add_zero, Option.bind_some, true_and, and_true, forall_const, true_implies, Bool.not_eq_true, Bool.false_eq_true, false_implies, ite_self, Nat.mul_one, t0, t1, t5, q1, hld]
    refine same33 wf0 q5 (hold.trans f2) fun S2 f3 => ?_
    simp (decide := true) only [FT.get_set, FT.setL, faS_ptr, nilS_ptr, nilS_func, nilS_yield, pickS_bool, ldS_ptr, list_cells, list_ro, partS_none, lenSl_of, lenStr_of, cvInt_of, aminmax_max, aminmax_min, abin_add, abin_sub, abin_mul, abin_eql, abin_neq, abin_lss, abin_leq, abin_gtr, abin_geq, aunary_not, aextract, Option.some.injEq, Prod.mk.injEq, Value.bool.injEq, exists_eq_left', exists_and_left, and_assoc, decide_eq_true_eq, decide_eq_false_iff_not, if_true, if_false, Nat.zero_add, Nat.add_zero, Option.bind_some, true_and, and_true, forall_const, true_implies, Bool.not_eq_true, Bool.false_eq_true, false_implies, ite_self, Nat.mul_one, Bool.not_true]
    refine m_cond (t := false) (by simp [evalT, FT.get_set, FT.setL, faS_ptr, nilS_ptr, nilS_func, nilS_yield, pickS_bool, ldS_ptr, list_cells, list_ro, partS_none, lenSl_of, lenStr_of, cvInt_of, aminmax_max, aminmax_min, abin_add, abin_sub, abin_mul, abin_eql, abin_neq, abin_lss, abin_leq, abin_gtr, abin_geq, aunary_not, aextract]) (fun h => by cases h) (fun _ => m_skip ?_)
    simp only
    refine m_reg ?_
    rw [reg26_5]
    have hw : IntKind.i64.wrap ((i : Int) + 1) = ((i + 1 : Nat) : Int) := by rw [wrap_i64 (by omega) (by omega)]; rfl
    simp (decide := true) only [FT.get_set, FT.setL, faS_ptr, nilS_ptr, nilS_func, nilS_yield, pickS_bool, ldS_ptr, list_cells, list_ro, partS_none, lenSl_of, lenStr_of, cvInt_of, aminmax_max, aminmax_min, abin_add, abin_sub, abin_mul, abin_eql, abin_neq, abin_lss, abin_leq, abin_gtr, abin_geq, aunary_not, aextract, Option.some.injEq, Prod.mk.injEq, Value.bool.injEq, exists_eq_left', exists_and_left, and_assoc, decide_eq_true_eq, decide_eq_false_iff_not, if_true, if_false, Nat.zero_add, Nat.add_zero, Option.bind_some, true_and, and_true, forall_const, true_implies, Bool.not_eq_true, Bool.false_eq_true, false_implies, ite_self, Nat.mul_one, t5, hw]
    exact ⟨m - 1, by omega, i + 1, by omega, f2.trans f3, by simp [FT.get_set, FT.setL, faS_ptr, nilS_ptr, nilS_func, nilS_yield, pickS_bool, ldS_ptr, list_cells, list_ro, partS_none, lenSl_of, lenStr_of, cvInt_of, aminmax_max, aminmax_min, abin_add, abin_sub, abin_mul, abin_eql, abin_neq, abin_lss, abin_leq, abin_gtr, abin_geq, aunary_not, aextract, t0], by simp [FT.get_set, FT.setL, faS_ptr, nilS_ptr, nilS_func, nilS_yield, pickS_bool, ldS_ptr, list_cells, list_ro, partS_none, lenSl_of, lenStr_of, cvInt_of, aminmax_max, aminmax_min, abin_add, abin_sub, abin_mul, abin_eql, abin_neq, abin_lss, abin_leq, abin_gtr, abin_geq, aunary_not, aextract, t1], by simp [FT.get_set, FT.setL, faS_ptr, nilS_ptr, nilS_func, nilS_yield, pickS_bool, ldS_ptr, list_cells, list_ro, partS_none, lenSl_of, lenStr_of, cvInt_of, aminmax_max, aminmax_min, abin_add, abin_sub, abin_mul, abin_eql, abin_neq, abin_lss, abin_leq, abin_gtr, abin_geq, aunary_not, aextract]⟩
  · simp only [if_true]
    refine m_seq (m_reg ?_)
    rw [reg26_8]
    refine m_ret ?_
    simp [resM, FT.get_set, FT.setL, faS_ptr, nilS_ptr, nilS_func, nilS_yield, pickS_bool, ldS_ptr, list_cells, list_ro, partS_none, lenSl_of, lenStr_of, cvInt_of, aminmax_max, aminmax_min, abin_add, abin_sub, abin_mul, abin_eql, abin_neq, abin_lss, abin_leq, abin_gtr, abin_geq, aunary_not, aextract, oneOrTuple]
    exact hq _ f2
end Go.Proofs.Ythkmkfgfabjhnaa

