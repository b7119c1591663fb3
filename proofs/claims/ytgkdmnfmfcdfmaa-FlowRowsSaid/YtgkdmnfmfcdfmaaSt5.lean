/-
  The walk through the code of blocks and of what is reached, part F5: what its functions do to memory. Nothing is asked.
-/
import Derived.Test.YtgkdmnfmfcdfmaaSt4
set_option linter.all false
namespace Go.Proofs.Ytgkdmnfmfcdfmaa
open Go Go.Ag
set_option linter.unusedVariables false
set_option maxRecDepth 100000

def Old (S S' : MS) : Prop := S.n ≤ S'.n ∧ ∀ y, y < S.n → S'.m y = S.m y
theorem Old.refl (S : MS) : Old S S := ⟨Nat.le_refl _, fun _ _ => rfl⟩
theorem Old.trans {S S' S'' : MS} (h : Old S S') (h' : Old S' S'') : Old S S'' := ⟨Nat.le_trans h.1 h'.1, fun y hy => by rw [h'.2 y (Nat.lt_of_lt_of_le hy h.1), h.2 y hy]⟩
def okOp (n : Nat) (o : Op5) : Prop := (o.c = 38 ∨ o.c = 39) → 0 ≤ o.k ∧ o.k < n

def CI (S : MS) (os : List Op5) (fb : Nat) (ov : Value) (m : Nat) (T : FT) (S' : MS) : Prop :=
  ∃ k, k + m = os.length ∧ (∀ (i : Nat) o, i < k → os[i]? = some o → okOp os.length o) ∧ Old S S' ∧ T.get 1 = .pointer (some ⟨fb, 0, none⟩) ∧ T.get 13 = ov ∧ T.get 14 = .int .i64 os.length ∧ T.get 15 = .int .i64 k
def CP (S : MS) (os : List Op5) (fb : Nat) (x : AExit) (T' : FT) (S' : MS) : Prop :=
  (x = .normal ∧ Good os ∧ T'.get 1 = .pointer (some ⟨fb, 0, none⟩) ∧ Old S S') ∨ (x = .ret ∧ ¬ Good os ∧ T'.get 2 = .slice none 0 0 ∧ T'.get 3 = .int .i64 100 ∧ Old S S')

def OP (n : Nat) (o : Op5) (fb : Nat) (T : FT) (S : MS) (x : AExit) (T' : FT) (S' : MS) : Prop := S' = S ∧ ((x = .normal ∧ okOp n o ∧ T'.get 1 = .pointer (some ⟨fb, 0, none⟩) ∧ T'.get 13 = T.get 13 ∧ T'.get 14 = T.get 14 ∧ T'.get 15 = T.get 15) ∨ (x = .ret ∧ ¬ okOp n o ∧ T'.get 2 = .slice none 0 0 ∧ T'.get 3 = .int .i64 100))

theorem op14 {S : MS} {T : FT} {fb sb n : Nat} {rr : Int} {ov : Value} {o : Op5} (hsb : S.m sb = some (.cells (opL o) 0)) (hfb : S.m fb = some (.cells [.int .i64 rr, ov] 0)) (hl : lenSl ov = some (.int .i64 n)) (t5 : T.get 5 = .pointer (some ⟨sb, 0, none⟩)) (t1 : T.get 1 = .pointer (some ⟨fb, 0, none⟩)) :
    MWp Try.prog O 51 (.seq (.region 6 (ro 14 6) false) (.cond (.tmp 35) (.seq (.region 7 (ro 14 7) false) .ret) .skip)) T S (OP n o fb T S) := by
  have bad : ∀ T', ¬ okOp n o → T'.get 35 = .bool true → MWp Try.prog O 51 (.cond (.tmp 35) (.seq (.region 7 (ro 14 7) false) .ret) .skip) T' S (OP n o fb T S) := by
    intro T' hno h35
    refine m_cond (t := true) h35 (fun _ => ?_) (fun h => by cases h)
    refine m_seq (m_reg ?_)
    rw [reg14_7]
    exact m_ret ⟨rfl, .inr ⟨rfl, hno, by simp [FT.get_set, FT.setL, faS_ptr, nilS_ptr, nilS_func, nilS_yield, pickS_bool, ldS_ptr, list_cells, list_ro, partS_none, lenSl_of, lenStr_of, cvInt_of, aminmax_max, aminmax_min, abin_add, abin_sub, abin_mul, abin_eql, abin_neq, abin_lss, abin_leq, abin_gtr, abin_geq, aunary_not, aextract], by simp [FT.get_set, FT.setL, faS_ptr, nilS_ptr, nilS_func, nilS_yield, pickS_bool, ldS_ptr, list_cells, list_ro, partS_none, lenSl_of, lenStr_of, cvInt_of, aminmax_max, aminmax_min, abin_add, abin_sub, abin_mul, abin_eql, abin_neq, abin_lss, abin_leq, abin_gtr, abin_geq, aunary_not, aextract]⟩⟩
  have good : ∀ T', okOp n o → T'.get 35 = .bool false → T'.get 1 = .pointer (some ⟨fb, 0, none⟩) → T'.get 13 = T.get 13 → T'.get 14 = T.get 14 → T'.get 15 = T.get 15 → MWp Try.prog O 51 (.cond (.tmp 35) (.seq (.region 7 (ro 14 7) false) .ret) .skip) T' S (OP n o fb T S) := by
    intro T' hok h35 h1 h13 h14 h15
    exact m_cond (t := false) h35 (fun h => by cases h) (fun _ => m_skip ⟨rfl, .inl ⟨rfl, hok, h1, h13, h14, h15⟩⟩)
  refine m_seq (m_reg ?_)
  rw [reg14_6]
  by_cases h38 : o.c = 38
  · have e38 : (o.c == 38) = true := by simp [h38]
    simp (decide := true) only [FT.get_set, FT.setL, faS_ptr, nilS_ptr, nilS_func, nilS_yield, pickS_bool, ldS_ptr, list_cells, list_ro, partS_none, lenSl_of, lenStr_of, cvInt_of, aminmax_max, aminmax_min, abin_add, abin_sub, abin_mul, abin_eql, abin_neq, abin_lss, abin_leq, abin_gtr, abin_geq, aunary_not, aextract, Option.some.injEq, Prod.mk.injEq, Value.bool.injEq, exists_eq_left', exists_and_left, and_assoc, decide_eq_true_eq, decide_eq_false_iff_not, if_true, if_false, Nat.zero_add, Nat.add_zero, Option.bind_some, true_and, and_true, forall_const, true_implies, Bool.not_eq_true, Bool.false_eq_true, false_implies, ite_self, Nat.mul_one, t5, t1, list_of hsb, list_of hfb, ol0, ol4, e38, List.getElem?_cons_zero, List.getElem?_cons_succ, hl]
    refine in28 _ _ ?_
    by_cases hin : 0 ≤ o.k ∧ o.k < (n : Int)
    · simp (decide := true) only [FT.get_set, FT.setL, faS_ptr, nilS_ptr, nilS_func, nilS_yield, pickS_bool, ldS_ptr, list_cells, list_ro, partS_none, lenSl_of, lenStr_of, cvInt_of, aminmax_max, aminmax_min, abin_add, abin_sub, abin_mul, abin_eql, abin_neq, abin_lss, abin_leq, abin_gtr, abin_geq, aunary_not, aextract, Option.some.injEq, Prod.mk.injEq, Value.bool.injEq, exists_eq_left', exists_and_left, and_assoc, decide_eq_true_eq, decide_eq_false_iff_not, if_true, if_false, Nat.zero_add, Nat.add_zero, Option.bind_some, true_and, and_true, forall_const, true_implies, Bool.not_eq_true, Bool.false_eq_true, false_implies, ite_self, Nat.mul_one, hin, decide_true, Bool.not_true]
      refine good _ (fun _ => hin) ?_ ?_ ?_ ?_ ?_ <;> simp [FT.get_set, FT.setL, faS_ptr, nilS_ptr, nilS_func, nilS_yield, pickS_bool, ldS_ptr, list_cells, list_ro, partS_none, lenSl_of, lenStr_of, cvInt_of, aminmax_max, aminmax_min, abin_add, abin_sub, abin_mul, abin_eql, abin_neq, abin_lss, abin_leq, abin_gtr, abin_geq, aunary_not, aextract, t1, hin]
    · have hd : decide (0 ≤ o.k ∧ o.k < (n : Int)) = false := decide_eq_false hin
      rw [hd]
      simp (decide := true) only [FT.get_set, FT.setL, faS_ptr, nilS_ptr, nilS_func, nilS_yield, pickS_bool, ldS_ptr, list_cells, list_ro, partS_none, lenSl_of, lenStr_of, cvInt_of, aminmax_max, aminmax_min, abin_add, abin_sub, abin_mul, abin_eql, abin_neq, abin_lss, abin_leq, abin_gtr, abin_geq, aunary_not, aextract, Option.some.injEq, Prod.mk.injEq, Value.bool.injEq, exists_eq_left', exists_and_left, and_assoc, decide_eq_true_eq, decide_eq_false_iff_not, if_true, if_false, Nat.zero_add, Nat.add_zero, Option.bind_some, true_and, and_true, forall_const, true_implies, Bool.not_eq_true, Bool.false_eq_true, false_implies, ite_self, Nat.mul_one, Bool.not_false]
      exact bad _ (fun h => hin (h (.inl h38))) (by simp [FT.get_set, FT.setL, faS_ptr, nilS_ptr, nilS_func, nilS_yield, pickS_bool, ldS_ptr, list_cells, list_ro, partS_none, lenSl_of, lenStr_of, cvInt_of, aminmax_max, aminmax_min, abin_add, abin_sub, abin_mul, abin_eql, abin_neq, abin_lss, abin_leq, abin_gtr, abin_geq, aunary_not, aextract])
  have e38 : (o.c == 38) = false := by simp [h38]
  by_cases h39 : o.c = 39
  · have e39 : (o.c == 39) = true := by simp [h39]
    simp (decide := true) only [FT.get_set, FT.setL, faS_ptr, nilS_ptr, nilS_func, nilS_yield, pickS_bool, ldS_ptr, list_cells, list_ro, partS_none, lenSl_of, lenStr_of, cvInt_of, aminmax_max, aminmax_min, abin_add, abin_sub, abin_mul, abin_eql, abin_neq, abin_lss, abin_leq, abin_gtr, abin_geq, aunary_not, aextract, Option.some.injEq, Prod.mk.injEq, Value.bool.injEq, exists_eq_left', exists_and_left, and_assoc, decide_eq_true_eq, decide_eq_false_iff_not, if_true, if_false, Nat.zero_add, Nat.add_zero, Option.bind_some, true_and, and_true, forall_const, true_implies, Bool.not_eq_true, Bool.false_eq_true, false_implies, ite_self, Nat.mul_one, t5, t1, list_of hsb, list_of hfb, ol0, ol4, e38, e39, List.getElem?_cons_zero, List.getElem?_cons_succ, hl]
    refine in28 _ _ ?_
    by_cases hin : 0 ≤ o.k ∧ o.k < (n : Int)
    · simp (decide := true) only [FT.get_set, FT.setL, faS_ptr, nilS_ptr, nilS_func, nilS_yield, pickS_bool, ldS_ptr, list_cells, list_ro, partS_none, lenSl_of, lenStr_of, cvInt_of, aminmax_max, aminmax_min, abin_add, abin_sub, abin_mul, abin_eql, abin_neq, abin_lss, abin_leq, abin_gtr, abin_geq, aunary_not, aextract, Option.some.injEq, Prod.mk.injEq, Value.bool.injEq, exists_eq_left', exists_and_left, and_assoc, decide_eq_true_eq, decide_eq_false_iff_not, if_true, if_false, Nat.zero_add, Nat.add_zero, Option.bind_some, true_and, and_true, forall_const, true_implies, Bool.not_eq_true, Bool.false_eq_true, false_implies, ite_self, Nat.mul_one, hin, decide_true, Bool.not_true]
      refine good _ (fun _ => hin) ?_ ?_ ?_ ?_ ?_ <;> simp [FT.get_set, FT.setL, faS_ptr, nilS_ptr, nilS_func, nilS_yield, pickS_bool, ldS_ptr, list_cells, list_ro, partS_none, lenSl_of, lenStr_of, cvInt_of, aminmax_max, aminmax_min, abin_add, abin_sub, abin_mul, abin_eql, abin_neq, abin_lss, abin_leq, abin_gtr, abin_geq, aunary_not, aextract, t1, hin]
    · have hd : decide (0 ≤ o.k ∧ o.k < (n : Int)) = false := decide_eq_false hin
      rw [hd]
      simp (decide := true) only [FT.get_set, FT.setL, faS_ptr, nilS_ptr, nilS_func, nilS_yield, pickS_bool, ldS_ptr, list_cells, list_ro, partS_none, lenSl_of, lenStr_of, cvInt_of, aminmax_max, aminmax_min, abin_add, abin_sub, abin_mul, abin_eql, abin_neq, abin_lss, abin_leq, abin_gtr, abin_geq, aunary_not, aextract, Option.some.injEq, Prod.mk.injEq, Value.bool.injEq, exists_eq_left', exists_and_left, and_assoc, decide_eq_true_eq, decide_eq_false_iff_not, if_true, if_false, Nat.zero_add, Nat.add_zero, Option.bind_some, true_and, and_true, forall_const, true_implies, Bool.not_eq_true, Bool.false_eq_true, false_implies, ite_self, Nat.mul_one, Bool.not_false]
      exact bad _ (fun h => hin (h (.inr h39))) (by simp [FT.get_set, FT.setL, faS_ptr, nilS_ptr, nilS_func, nilS_yield, pickS_bool, ldS_ptr, list_cells, list_ro, partS_none, lenSl_of, lenStr_of, cvInt_of, aminmax_max, aminmax_min, abin_add, abin_sub, abin_mul, abin_eql, abin_neq, abin_lss, abin_leq, abin_gtr, abin_geq, aunary_not, aextract])
  have e39 : (o.c == 39) = false := by simp [h39]
  simp (decide := true) only [FT.get_set, FT.setL, faS_ptr, nilS_ptr, nilS_func, nilS_yield, pickS_bool, ldS_ptr, list_cells, list_ro, partS_none, lenSl_of, lenStr_of, cvInt_of, aminmax_max, aminmax_min, abin_add, abin_sub, abin_mul, abin_eql, abin_neq, abin_lss, abin_leq, abin_gtr, abin_geq, aunary_not, aextract, Option.some.injEq, Prod.mk.injEq, Value.bool.injEq, exists_eq_left', exists_and_left, and_assoc, decide_eq_true_eq, decide_eq_false_iff_not, if_true, if_false, Nat.zero_add, Nat.add_zero, Option.bind_some, true_and, and_true, forall_const, true_implies, Bool.not_eq_true, Bool.false_eq_true, false_implies, ite_self, Nat.mul_one, t5, t1, list_of hsb, list_of hfb, ol0, ol4, e38, e39, List.getElem?_cons_zero, List.getElem?_cons_succ, hl]
  exact good _ (fun h => by omega) (by simp [FT.get_set, FT.setL, faS_ptr, nilS_ptr, nilS_func, nilS_yield, pickS_bool, ldS_ptr, list_cells, list_ro, partS_none, lenSl_of, lenStr_of, cvInt_of, aminmax_max, aminmax_min, abin_add, abin_sub, abin_mul, abin_eql, abin_neq, abin_lss, abin_leq, abin_gtr, abin_geq, aunary_not, aextract]) (by simp [FT.get_set, FT.setL, faS_ptr, nilS_ptr, nilS_func, nilS_yield, pickS_bool, ldS_ptr, list_cells, list_ro, partS_none, lenSl_of, lenStr_of, cvInt_of, aminmax_max, aminmax_min, abin_add, abin_sub, abin_mul, abin_eql, abin_neq, abin_lss, abin_leq, abin_gtr, abin_geq, aunary_not, aextract, t1]) (by simp [FT.get_set, FT.setL, faS_ptr, nilS_ptr, nilS_func, nilS_yield, pickS_bool, ldS_ptr, list_cells, list_ro, partS_none, lenSl_of, lenStr_of, cvInt_of, aminmax_max, aminmax_min, abin_add, abin_sub, abin_mul, abin_eql, abin_neq, abin_lss, abin_leq, abin_gtr, abin_geq, aunary_not, aextract]) (by simp [FT.get_set, FT.setL, faS_ptr, nilS_ptr, nilS_func, nilS_yield, pickS_bool, ldS_ptr, list_cells, list_ro, partS_none, lenSl_of, lenStr_of, cvInt_of, aminmax_max, aminmax_min, abin_add, abin_sub, abin_mul, abin_eql, abin_neq, abin_lss, abin_leq, abin_gtr, abin_geq, aunary_not, aextract]) (by simp [FT.get_set, FT.setL, faS_ptr, nilS_ptr, nilS_func, nilS_yield, pickS_bool, ldS_ptr, list_cells, list_ro, partS_none, lenSl_of, lenStr_of, cvInt_of, aminmax_max, aminmax_min, abin_add, abin_sub, abin_mul, abin_eql, abin_neq, abin_lss, abin_leq, abin_gtr, abin_geq, aunary_not, aextract])

theorem check14 {S : MS} {T : FT} {fb : Nat} {rr : Int} {ov : Value} {os : List Op5} (hfb : S.m fb = some (.cells [.int .i64 rr, ov] 0)) (ho : Ops S ov os) (hn : os.length ≤ 2500) (wf : S.WF) (t1 : T.get 1 = .pointer (some ⟨fb, 0, none⟩)) (t13 : T.get 13 = ov) (t14 : T.get 14 = .int .i64 os.length) (t15 : T.get 15 = .int .i64 0) :
    MWp Try.prog O 51 blk14_0 T S (CP S os fb) := by
  unfold blk14_0
  refine m_block (m_loop (fun m T S' => CI S os fb ov m T S') os.length ⟨0, by omega, fun i o hi => absurd hi (by omega), Old.refl S, t1, t13, t14, t15⟩ ?_)
  clear t1 t13 t14 t15
  rintro m T S1 ⟨k, hk, hall, hold, t1, t13, t14, t15⟩
  refine m_seq (m_reg ?_)
  rw [reg14_4]
  simp (decide := true) only [FT.get_set, FT.setL, faS_ptr, nilS_ptr, nilS_func, nilS_yield, pickS_bool, ldS_ptr, list_cells, list_ro, partS_none, lenSl_of, lenStr_of, cvInt_of, aminmax_max, aminmax_min, abin_add, abin_sub, abin_mul, abin_eql, abin_neq, abin_lss, abin_leq, abin_gtr, abin_geq, aunary_not, aextract, Option.some.injEq, Prod.mk.injEq, Value.bool.injEq, exists_eq_left', exists_and_left, and_assoc, decide_eq_true_eq, decide_eq_false_iff_not, if_true, if_false, Nat.zero_add, Nat.add_zero, Option.bind_some, true_and, and_true, forall_const, true_implies, Bool.not_eq_true, Bool.false_eq_true, false_implies, ite_self, Nat.mul_one, t14, t15]
  refine m_seq (m_cond (t := decide ((k : Int) < os.length)) (by simp [evalT, FT.get_set, FT.setL, faS_ptr, nilS_ptr, nilS_func, nilS_yield, pickS_bool, ldS_ptr, list_cells, list_ro, partS_none, lenSl_of, lenStr_of, cvInt_of, aminmax_max, aminmax_min, abin_add, abin_sub, abin_mul, abin_eql, abin_neq, abin_lss, abin_leq, abin_gtr, abin_geq, aunary_not, aextract]) (fun hlt => ?_) (fun hlt => ?_))
  · have hlt : k < os.length := by have := of_decide_eq_true hlt; omega
    refine m_skip ?_
    simp only
    obtain ⟨o, hoo⟩ : ∃ o, os[k]? = some o := ⟨_, List.getElem?_eq_getElem hlt⟩
    have hfb1 := (hold.2 fb (wf _ _ hfb)).trans hfb
    have ho1 := ho.keep wf hold.2
    obtain ⟨p, hp1, hp2⟩ := ho1.at hoo
    refine m_wf fun wf1 => ?_
    unfold blk14_1
    refine m_seq (m_block (m_seq (m_reg ?_)))
    rw [reg14_5]
    simp (decide := true) only [FT.get_set, FT.setL, faS_ptr, nilS_ptr, nilS_func, nilS_yield, pickS_bool, ldS_ptr, list_cells, list_ro, partS_none, lenSl_of, lenStr_of, cvInt_of, aminmax_max, aminmax_min, abin_add, abin_sub, abin_mul, abin_eql, abin_neq, abin_lss, abin_leq, abin_gtr, abin_geq, aunary_not, aextract, Option.some.injEq, Prod.mk.injEq, Value.bool.injEq, exists_eq_left', exists_and_left, and_assoc, decide_eq_true_eq, decide_eq_false_iff_not, if_true, if_false, Nat.zero_add, Nat.add_zero, Option.bind_some, true_and, and_true, forall_const, true_implies, Bool.not_eq_true, Bool.false_eq_true, false_implies, ite_self, Nat.mul_one, t13, t15, hp1, hp2, ptrTo]
    obtain ⟨S2, s1, s2, s3, s4⟩ := st_all (n := 5) (cs := (opL o).toArray) (fresh_at S1 [.int .i64 0, .int .i64 0, .int .i64 0, .int .i64 0, .int .i64 0] 0) rfl rfl rfl
    have hs2 : S2.m S1.n = some (.cells (opL o) 0) := s2
    refine ⟨S2, s1, ?_⟩
    have f2 : Old S1 S2 := ⟨by rw [s3, fresh_n]; omega, fun y hy => by rw [s4 y (by omega), fresh_old _ _ _ (by omega)]⟩
    have hfb2 := (f2.2 fb (wf1 _ _ hfb1)).trans hfb1
    have hold2 := hold.trans f2
    refine MWp.mono (op14 hs2 hfb2 ho1.len ?_ ?_) ?_
    · simp [FT.get_set, FT.setL, faS_ptr, nilS_ptr, nilS_func, nilS_yield, pickS_bool, ldS_ptr, list_cells, list_ro, partS_none, lenSl_of, lenStr_of, cvInt_of, aminmax_max, aminmax_min, abin_add, abin_sub, abin_mul, abin_eql, abin_neq, abin_lss, abin_leq, abin_gtr, abin_geq, aunary_not, aextract]
    · simp [FT.get_set, FT.setL, faS_ptr, nilS_ptr, nilS_func, nilS_yield, pickS_bool, ldS_ptr, list_cells, list_ro, partS_none, lenSl_of, lenStr_of, cvInt_of, aminmax_max, aminmax_min, abin_add, abin_sub, abin_mul, abin_eql, abin_neq, abin_lss, abin_leq, abin_gtr, abin_geq, aunary_not, aextract, t1]
    rintro x T3 S3 ⟨rfl, hx⟩
    rcases hx with ⟨rfl, hok, g1, g13, g14, g15⟩ | ⟨rfl, hno, g2, g3⟩
    · simp only
      refine m_reg ?_
      rw [reg14_8]
      have t15' : T3.get 15 = .int .i64 k := by rw [g15]; simp [FT.get_set, FT.setL, faS_ptr, nilS_ptr, nilS_func, nilS_yield, pickS_bool, ldS_ptr, list_cells, list_ro, partS_none, lenSl_of, lenStr_of, cvInt_of, aminmax_max, aminmax_min, abin_add, abin_sub, abin_mul, abin_eql, abin_neq, abin_lss, abin_leq, abin_gtr, abin_geq, aunary_not, aextract, t15]
      simp (decide := true) only [FT.get_set, FT.setL, faS_ptr, nilS_ptr, nilS_func, nilS_yield, pickS_bool, ldS_ptr, list_cells, list_ro, partS_none, lenSl_of, lenStr_of, cvInt_of, aminmax_max, aminmax_min, abin_add, abin_sub, abin_mul, abin_eql, abin_neq, abin_lss, abin_leq, abin_gtr, abin_geq, aunary_not, aextract, Option.some.injEq, Prod.mk.injEq, Value.bool.injEq, exists_eq_left', exists_and_left, and_assoc, decide_eq_true_eq, decide_eq_false_iff_not, if_true, if_false, Nat.zero_add, Nat.add_zero, Option.bind_some, true_and, and_true, forall_const, true_implies, Bool.not_eq_true, Bool.false_eq_true, false_implies, ite_self, Nat.mul_one, t15']
      have hw : IntKind.i64.wrap ((k : Int) + 1) = ((k + 1 : Nat) : Int) := by rw [wrap_i64 (by omega) (by omega)]; rfl
      rw [hw]
      refine ⟨m - 1, by omega, k + 1, by omega, fun i o' hi ho' => ?_, hold2, by simp [FT.get_set, FT.setL, faS_ptr, nilS_ptr, nilS_func, nilS_yield, pickS_bool, ldS_ptr, list_cells, list_ro, partS_none, lenSl_of, lenStr_of, cvInt_of, aminmax_max, aminmax_min, abin_add, abin_sub, abin_mul, abin_eql, abin_neq, abin_lss, abin_leq, abin_gtr, abin_geq, aunary_not, aextract, g1], by simp [FT.get_set, FT.setL, faS_ptr, nilS_ptr, nilS_func, nilS_yield, pickS_bool, ldS_ptr, list_cells, list_ro, partS_none, lenSl_of, lenStr_of, cvInt_of, aminmax_max, aminmax_min, abin_add, abin_sub, abin_mul, abin_eql, abin_neq, abin_lss, abin_leq, abin_gtr, abin_geq, aunary_not, aextract, g13, t13], by simp [FT.get_set, FT.setL, faS_ptr, nilS_ptr, nilS_func, nilS_yield, pickS_bool, ldS_ptr, list_cells, list_ro, partS_none, lenSl_of, lenStr_of, cvInt_of, aminmax_max, aminmax_min, abin_add, abin_sub, abin_mul, abin_eql, abin_neq, abin_lss, abin_leq, abin_gtr, abin_geq, aunary_not, aextract, g14, t14], by simp [FT.get_set, FT.setL, faS_ptr, nilS_ptr, nilS_func, nilS_yield, pickS_bool, ldS_ptr, list_cells, list_ro, partS_none, lenSl_of, lenStr_of, cvInt_of, aminmax_max, aminmax_min, abin_add, abin_sub, abin_mul, abin_eql, abin_neq, abin_lss, abin_leq, abin_gtr, abin_geq, aunary_not, aextract]⟩
      by_cases e : i = k
      · subst e; rw [hoo] at ho'; cases ho'; exact hok
      · exact hall i o' (by omega) ho'
    · simp only
      exact .inr ⟨rfl, fun hg => hno (hg k o hoo), g2, g3, hold2⟩
  · have hlt : ¬ k < os.length := by have := of_decide_eq_false hlt; omega
    refine m_exit ?_
    simp only [if_true]
    exact .inl ⟨rfl, fun i o hi hc => hall i o (by have := (List.getElem?_eq_some_iff.1 hi).1; omega) hi hc, t1, hold⟩
end Go.Proofs.Ytgkdmnfmfcdfmaa

