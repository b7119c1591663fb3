/-
  The walk through the code that goes through instructions, part 7: what its functions do to memory. Nothing is asked.
-/
import Derived.Test.YtgkdmnfmfcdfmaaSt6
set_option linter.all false
namespace Go.Proofs.Ytgkdmnfmfcdfmaa
open Go Go.Ag
set_option linter.unusedVariables false
set_option maxRecDepth 100000

def OPr (n : Nat) (o : Op5) (fb : Nat) (T : FT) (S : MS) (x : AExit) (T' : FT) (S' : MS) : Prop := S' = S ∧ ((x = .normal ∧ okOp n o ∧ T'.get 1 = .pointer (some ⟨fb, 0, none⟩) ∧ T'.get 4 = T.get 4) ∨ (x = .ret ∧ ¬ okOp n o ∧ T'.get 2 = .slice none 0 0 ∧ T'.get 3 = .int .i64 100))

theorem op15 {S : MS} {T : FT} {fb sb n : Nat} {rr : Int} {ov : Value} {o : Op5} (hsb : S.m sb = some (.cells (opL o) 0)) (hfb : S.m fb = some (.cells [.int .i64 rr, ov] 0)) (hl : lenSl ov = some (.int .i64 n)) (t5 : T.get 5 = .pointer (some ⟨sb, 0, none⟩)) (t1 : T.get 1 = .pointer (some ⟨fb, 0, none⟩)) :
    MWp Try.prog O 110 (.seq (.region 7 (ro 15 7) false) (.cond (.tmp 47) (.seq (.region 8 (ro 15 8) false) .ret) .skip)) T S (OPr n o fb T S) := by
  have bad : ∀ T', ¬ okOp n o → T'.get 47 = .bool true → MWp Try.prog O 110 (.cond (.tmp 47) (.seq (.region 8 (ro 15 8) false) .ret) .skip) T' S (OPr n o fb T S) := by
    intro T' hno h35
    refine m_cond (t := true) h35 (fun _ => ?_) (fun h => by cases h)
    refine m_seq (m_reg ?_)
    rw [reg15_8]
    exact m_ret ⟨rfl, .inr ⟨rfl, hno, by simp [FT.get_set, FT.setL, faS_ptr, nilS_ptr, nilS_func, nilS_yield, pickS_bool, ldS_ptr, list_cells, list_ro, partS_none, lenSl_of, lenStr_of, cvInt_of, aminmax_max, aminmax_min, abin_add, abin_sub, abin_mul, abin_eql, abin_neq, abin_lss, abin_leq, abin_gtr, abin_geq, aunary_not, aextract], by simp [FT.get_set, FT.setL, faS_ptr, nilS_ptr, nilS_func, nilS_yield, pickS_bool, ldS_ptr, list_cells, list_ro, partS_none, lenSl_of, lenStr_of, cvInt_of, aminmax_max, aminmax_min, abin_add, abin_sub, abin_mul, abin_eql, abin_neq, abin_lss, abin_leq, abin_gtr, abin_geq, aunary_not, aextract]⟩⟩
  have good : ∀ T', okOp n o → T'.get 47 = .bool false → T'.get 1 = .pointer (some ⟨fb, 0, none⟩) → T'.get 4 = T.get 4 → MWp Try.prog O 110 (.cond (.tmp 47) (.seq (.region 8 (ro 15 8) false) .ret) .skip) T' S (OPr n o fb T S) := by
    intro T' hok h35 h1 h4
    exact m_cond (t := false) h35 (fun h => by cases h) (fun _ => m_skip ⟨rfl, .inl ⟨rfl, hok, h1, h4⟩⟩)
  refine m_seq (m_reg2 ?_)
  rw [reg15_7]
  by_cases hc : o.c = 38 ∨ o.c = 39
  · have hbad : ¬ (0 ≤ o.k ∧ o.k < (n : Int)) → ¬ okOp n o := fun h h' => h (h' hc)
    by_cases h38 : o.c = 38
    · have e38 : (o.c == 38) = true := by simp [h38]
      simp (decide := true) only [FT.get_set, FT.setL, faS_ptr, nilS_ptr, nilS_func, nilS_yield, pickS_bool, ldS_ptr, list_cells, list_ro, partS_none, lenSl_of, lenStr_of, cvInt_of, aminmax_max, aminmax_min, abin_add, abin_sub, abin_mul, abin_eql, abin_neq, abin_lss, abin_leq, abin_gtr, abin_geq, aunary_not, aextract, Option.some.injEq, Prod.mk.injEq, Value.bool.injEq, exists_eq_left', exists_and_left, and_assoc, decide_eq_true_eq, decide_eq_false_iff_not, if_true, if_false, Nat.zero_add, Nat.add_zero, Option.bind_some, true_and, and_true, forall_const, true_implies, Bool.not_eq_true, Bool.false_eq_true, false_implies, ite_self, Nat.mul_one, t5, t1, list_of hsb, list_of hfb, ol0, ol4, e38, List.getElem?_cons_zero, List.getElem?_cons_succ, hl]
      refine ⟨fun hk => ?_, fun hk => ?_⟩
      · exact bad _ (hbad (by omega)) (by simp [FT.get_set, FT.setL, faS_ptr, nilS_ptr, nilS_func, nilS_yield, pickS_bool, ldS_ptr, list_cells, list_ro, partS_none, lenSl_of, lenStr_of, cvInt_of, aminmax_max, aminmax_min, abin_add, abin_sub, abin_mul, abin_eql, abin_neq, abin_lss, abin_leq, abin_gtr, abin_geq, aunary_not, aextract, hk])
      · by_cases hin : o.k < (n : Int)
        · have hge : ¬ o.k ≥ (n : Int) := by omega
          exact good _ (fun _ => ⟨by omega, hin⟩) (by simp [FT.get_set, FT.setL, faS_ptr, nilS_ptr, nilS_func, nilS_yield, pickS_bool, ldS_ptr, list_cells, list_ro, partS_none, lenSl_of, lenStr_of, cvInt_of, aminmax_max, aminmax_min, abin_add, abin_sub, abin_mul, abin_eql, abin_neq, abin_lss, abin_leq, abin_gtr, abin_geq, aunary_not, aextract, hk, hge]) (by simp [FT.get_set, FT.setL, faS_ptr, nilS_ptr, nilS_func, nilS_yield, pickS_bool, ldS_ptr, list_cells, list_ro, partS_none, lenSl_of, lenStr_of, cvInt_of, aminmax_max, aminmax_min, abin_add, abin_sub, abin_mul, abin_eql, abin_neq, abin_lss, abin_leq, abin_gtr, abin_geq, aunary_not, aextract, t1]) (by simp [FT.get_set, FT.setL, faS_ptr, nilS_ptr, nilS_func, nilS_yield, pickS_bool, ldS_ptr, list_cells, list_ro, partS_none, lenSl_of, lenStr_of, cvInt_of, aminmax_max, aminmax_min, abin_add, abin_sub, abin_mul, abin_eql, abin_neq, abin_lss, abin_leq, abin_gtr, abin_geq, aunary_not, aextract])
        · have hge : o.k ≥ (n : Int) := by omega
          exact bad _ (hbad (by omega)) (by simp [FT.get_set, FT.setL, faS_ptr, nilS_ptr, nilS_func, nilS_yield, pickS_bool, ldS_ptr, list_cells, list_ro, partS_none, lenSl_of, lenStr_of, cvInt_of, aminmax_max, aminmax_min, abin_add, abin_sub, abin_mul, abin_eql, abin_neq, abin_lss, abin_leq, abin_gtr, abin_geq, aunary_not, aextract, hk, hge])
    · have h39 : o.c = 39 := by omega
      have e38 : (o.c == 38) = false := by simp [h38]
      have e39 : (o.c == 39) = true := by simp [h39]
      simp (decide := true) only [FT.get_set, FT.setL, faS_ptr, nilS_ptr, nilS_func, nilS_yield, pickS_bool, ldS_ptr, list_cells, list_ro, partS_none, lenSl_of, lenStr_of, cvInt_of, aminmax_max, aminmax_min, abin_add, abin_sub, abin_mul, abin_eql, abin_neq, abin_lss, abin_leq, abin_gtr, abin_geq, aunary_not, aextract, Option.some.injEq, Prod.mk.injEq, Value.bool.injEq, exists_eq_left', exists_and_left, and_assoc, decide_eq_true_eq, decide_eq_false_iff_not, if_true, if_false, Nat.zero_add, Nat.add_zero, Option.bind_some, true_and, and_true, forall_const, true_implies, Bool.not_eq_true, Bool.false_eq_true, false_implies, ite_self, Nat.mul_one, t5, t1, list_of hsb, list_of hfb, ol0, ol4, e38, e39, List.getElem?_cons_zero, List.getElem?_cons_succ, hl]
      refine ⟨fun hk => ?_, fun hk => ?_⟩
      · exact bad _ (hbad (by omega)) (by simp [FT.get_set, FT.setL, faS_ptr, nilS_ptr, nilS_func, nilS_yield, pickS_bool, ldS_ptr, list_cells, list_ro, partS_none, lenSl_of, lenStr_of, cvInt_of, aminmax_max, aminmax_min, abin_add, abin_sub, abin_mul, abin_eql, abin_neq, abin_lss, abin_leq, abin_gtr, abin_geq, aunary_not, aextract, hk])
      · by_cases hin : o.k < (n : Int)
        · have hge : ¬ o.k ≥ (n : Int) := by omega
          exact good _ (fun _ => ⟨by omega, hin⟩) (by simp [FT.get_set, FT.setL, faS_ptr, nilS_ptr, nilS_func, nilS_yield, pickS_bool, ldS_ptr, list_cells, list_ro, partS_none, lenSl_of, lenStr_of, cvInt_of, aminmax_max, aminmax_min, abin_add, abin_sub, abin_mul, abin_eql, abin_neq, abin_lss, abin_leq, abin_gtr, abin_geq, aunary_not, aextract, hk, hge]) (by simp [FT.get_set, FT.setL, faS_ptr, nilS_ptr, nilS_func, nilS_yield, pickS_bool, ldS_ptr, list_cells, list_ro, partS_none, lenSl_of, lenStr_of, cvInt_of, aminmax_max, aminmax_min, abin_add, abin_sub, abin_mul, abin_eql, abin_neq, abin_lss, abin_leq, abin_gtr, abin_geq, aunary_not, aextract, t1]) (by simp [FT.get_set, FT.setL, faS_ptr, nilS_ptr, nilS_func, nilS_yield, pickS_bool, ldS_ptr, list_cells, list_ro, partS_none, lenSl_of, lenStr_of, cvInt_of, aminmax_max, aminmax_min, abin_add, abin_sub, abin_mul, abin_eql, abin_neq, abin_lss, abin_leq, abin_gtr, abin_geq, aunary_not, aextract])
        · have hge : o.k ≥ (n : Int) := by omega
          exact bad _ (hbad (by omega)) (by simp [FT.get_set, FT.setL, faS_ptr, nilS_ptr, nilS_func, nilS_yield, pickS_bool, ldS_ptr, list_cells, list_ro, partS_none, lenSl_of, lenStr_of, cvInt_of, aminmax_max, aminmax_min, abin_add, abin_sub, abin_mul, abin_eql, abin_neq, abin_lss, abin_leq, abin_gtr, abin_geq, aunary_not, aextract, hk, hge])
  · have e38 : (o.c == 38) = false := by simp; omega
    have e39 : (o.c == 39) = false := by simp; omega
    simp (decide := true) only [FT.get_set, FT.setL, faS_ptr, nilS_ptr, nilS_func, nilS_yield, pickS_bool, ldS_ptr, list_cells, list_ro, partS_none, lenSl_of, lenStr_of, cvInt_of, aminmax_max, aminmax_min, abin_add, abin_sub, abin_mul, abin_eql, abin_neq, abin_lss, abin_leq, abin_gtr, abin_geq, aunary_not, aextract, Option.some.injEq, Prod.mk.injEq, Value.bool.injEq, exists_eq_left', exists_and_left, and_assoc, decide_eq_true_eq, decide_eq_false_iff_not, if_true, if_false, Nat.zero_add, Nat.add_zero, Option.bind_some, true_and, and_true, forall_const, true_implies, Bool.not_eq_true, Bool.false_eq_true, false_implies, ite_self, Nat.mul_one, t5, t1, list_of hsb, list_of hfb, ol0, ol4, e38, e39, List.getElem?_cons_zero, List.getElem?_cons_succ, hl]
    exact good _ (fun h => absurd h hc) (by simp [FT.get_set, FT.setL, faS_ptr, nilS_ptr, nilS_func, nilS_yield, pickS_bool, ldS_ptr, list_cells, list_ro, partS_none, lenSl_of, lenStr_of, cvInt_of, aminmax_max, aminmax_min, abin_add, abin_sub, abin_mul, abin_eql, abin_neq, abin_lss, abin_leq, abin_gtr, abin_geq, aunary_not, aextract]) (by simp [FT.get_set, FT.setL, faS_ptr, nilS_ptr, nilS_func, nilS_yield, pickS_bool, ldS_ptr, list_cells, list_ro, partS_none, lenSl_of, lenStr_of, cvInt_of, aminmax_max, aminmax_min, abin_add, abin_sub, abin_mul, abin_eql, abin_neq, abin_lss, abin_leq, abin_gtr, abin_geq, aunary_not, aextract, t1]) (by simp [FT.get_set, FT.setL, faS_ptr, nilS_ptr, nilS_func, nilS_yield, pickS_bool, ldS_ptr, list_cells, list_ro, partS_none, lenSl_of, lenStr_of, cvInt_of, aminmax_max, aminmax_min, abin_add, abin_sub, abin_mul, abin_eql, abin_neq, abin_lss, abin_leq, abin_gtr, abin_geq, aunary_not, aextract])

def CIr (S : MS) (os : List Op5) (fb : Nat) (m : Nat) (T : FT) (S' : MS) : Prop :=
  ∃ k, k + m = os.length ∧ (∀ (i : Nat) o, i < k → os[i]? = some o → okOp os.length o) ∧ Old S S' ∧ T.get 1 = .pointer (some ⟨fb, 0, none⟩) ∧ T.get 4 = .int .i64 k

theorem check15 {S : MS} {T : FT} {fb : Nat} {rr : Int} {ov : Value} {os : List Op5} (hfb : S.m fb = some (.cells [.int .i64 rr, ov] 0)) (ho : Ops S ov os) (hn : os.length ≤ 2500) (wf : S.WF) (t1 : T.get 1 = .pointer (some ⟨fb, 0, none⟩)) (t4 : T.get 4 = .int .i64 0) :
    MWp Try.prog O 110 blk15_0 T S (CP S os fb) := by
  unfold blk15_0
  refine m_block (m_loop (fun m T S' => CIr S os fb m T S') os.length ⟨0, by omega, fun i o hi => absurd hi (by omega), Old.refl S, t1, t4⟩ ?_)
  clear t1 t4
  rintro m T S1 ⟨k, hk, hall, hold, t1, t4⟩
  have hfb1 := (hold.2 fb (wf _ _ hfb)).trans hfb
  have ho1 := ho.keep wf hold.2
  refine m_seq (m_seq (m_reg ?_))
  rw [reg15_4]
  simp (decide := true) only [FT.get_set, FT.setL, faS_ptr, nilS_ptr, nilS_func, nilS_yield, pickS_bool, ldS_ptr, list_cells, list_ro, partS_none, lenSl_of, lenStr_of, cvInt_of, aminmax_max, aminmax_min, abin_add, abin_sub, abin_mul, abin_eql, abin_neq, abin_lss, abin_leq, abin_gtr, abin_geq, aunary_not, aextract, Option.some.injEq, Prod.mk.injEq, Value.bool.injEq, exists_eq_left', exists_and_left, and_assoc, decide_eq_true_eq, decide_eq_false_iff_not, if_true, if_false, Nat.zero_add, Nat.add_zero, Option.bind_some, true_and, and_true, forall_const, true_implies, Bool.not_eq_true, Bool.false_eq_true, false_implies, ite_self, Nat.mul_one, t1, t4, list_of hfb1, List.getElem?_cons_zero, List.getElem?_cons_succ, ho.len]
  refine m_cond (t := decide ((k : Int) < os.length)) (by simp [evalT, FT.get_set, FT.setL, faS_ptr, nilS_ptr, nilS_func, nilS_yield, pickS_bool, ldS_ptr, list_cells, list_ro, partS_none, lenSl_of, lenStr_of, cvInt_of, aminmax_max, aminmax_min, abin_add, abin_sub, abin_mul, abin_eql, abin_neq, abin_lss, abin_leq, abin_gtr, abin_geq, aunary_not, aextract]) (fun hlt => ?_) (fun hlt => ?_)
  · have hlt : k < os.length := by have := of_decide_eq_true hlt; omega
    refine m_skip ?_
    simp only
    obtain ⟨o, hoo⟩ : ∃ o, os[k]? = some o := ⟨_, List.getElem?_eq_getElem hlt⟩
    obtain ⟨p, hp1, hp2⟩ := ho1.at hoo
    refine m_wf fun wf1 => ?_
    unfold blk15_1
    refine m_seq (m_block (m_seq (m_reg ?_)))
    rw [reg15_6]
    simp (decide := true) only [FT.get_set, FT.setL, faS_ptr, nilS_ptr, nilS_func, nilS_yield, pickS_bool, ldS_ptr, list_cells, list_ro, partS_none, lenSl_of, lenStr_of, cvInt_of, aminmax_max, aminmax_min, abin_add, abin_sub, abin_mul, abin_eql, abin_neq, abin_lss, abin_leq, abin_gtr, abin_geq, aunary_not, aextract, Option.some.injEq, Prod.mk.injEq, Value.bool.injEq, exists_eq_left', exists_and_left, and_assoc, decide_eq_true_eq, decide_eq_false_iff_not, if_true, if_false, Nat.zero_add, Nat.add_zero, Option.bind_some, true_and, and_true, forall_const, true_implies, Bool.not_eq_true, Bool.false_eq_true, false_implies, ite_self, Nat.mul_one, t1, t4, list_of hfb1, List.getElem?_cons_zero, List.getElem?_cons_succ, hp1, hp2, ptrTo]
    obtain ⟨S2, s1, s2, s3, s4⟩ := st_all (n := 5) (cs := (opL o).toArray) (fresh_at S1 [.int .i64 0, .int .i64 0, .int .i64 0, .int .i64 0, .int .i64 0] 0) rfl rfl rfl
    have hs2 : S2.m S1.n = some (.cells (opL o) 0) := s2
    refine ⟨S2, s1, ?_⟩
    have f2 : Old S1 S2 := ⟨by rw [s3, fresh_n]; omega, fun y hy => by rw [s4 y (by omega), fresh_old _ _ _ (by omega)]⟩
    have hfb2 := (f2.2 fb (wf1 _ _ hfb1)).trans hfb1
    have hold2 := hold.trans f2
    refine MWp.mono (op15 hs2 hfb2 ho1.len ?_ ?_) ?_
    · simp [FT.get_set, FT.setL, faS_ptr, nilS_ptr, nilS_func, nilS_yield, pickS_bool, ldS_ptr, list_cells, list_ro, partS_none, lenSl_of, lenStr_of, cvInt_of, aminmax_max, aminmax_min, abin_add, abin_sub, abin_mul, abin_eql, abin_neq, abin_lss, abin_leq, abin_gtr, abin_geq, aunary_not, aextract]
    · simp [FT.get_set, FT.setL, faS_ptr, nilS_ptr, nilS_func, nilS_yield, pickS_bool, ldS_ptr, list_cells, list_ro, partS_none, lenSl_of, lenStr_of, cvInt_of, aminmax_max, aminmax_min, abin_add, abin_sub, abin_mul, abin_eql, abin_neq, abin_lss, abin_leq, abin_gtr, abin_geq, aunary_not, aextract, t1]
    rintro x T3 S3 ⟨rfl, hx⟩
    rcases hx with ⟨rfl, hok, g1, g4⟩ | ⟨rfl, hno, g2, g3⟩
    · simp only
      refine m_reg ?_
      rw [reg15_5]
      have t4' : T3.get 4 = .int .i64 k := by rw [g4]; simp [FT.get_set, FT.setL, faS_ptr, nilS_ptr, nilS_func, nilS_yield, pickS_bool, ldS_ptr, list_cells, list_ro, partS_none, lenSl_of, lenStr_of, cvInt_of, aminmax_max, aminmax_min, abin_add, abin_sub, abin_mul, abin_eql, abin_neq, abin_lss, abin_leq, abin_gtr, abin_geq, aunary_not, aextract, t4]
      simp (decide := true) only [FT.get_set, FT.setL, faS_ptr, nilS_ptr, nilS_func, nilS_yield, pickS_bool, ldS_ptr, list_cells, list_ro, partS_none, lenSl_of, lenStr_of, cvInt_of, aminmax_max, aminmax_min, abin_add, abin_sub, abin_mul, abin_eql, abin_neq, abin_lss, abin_leq, abin_gtr, abin_geq, aunary_not, aextract, Option.some.injEq, Prod.mk.injEq, Value.bool.injEq, exists_eq_left', exists_and_left, and_assoc, decide_eq_true_eq, decide_eq_false_iff_not, if_true, if_false, Nat.zero_add, Nat.add_zero, Option.bind_some, true_and, and_true, forall_const, true_implies, Bool.not_eq_true, Bool.false_eq_true, false_implies, ite_self, Nat.mul_one, t4']
      have hw : IntKind.i64.wrap ((k : Int) + 1) = ((k + 1 : Nat) : Int) := by rw [wrap_i64 (by omega) (by omega)]; rfl
      rw [hw]
      refine ⟨m - 1, by omega, k + 1, by omega, fun i o' hi ho' => ?_, hold2, by simp [FT.get_set, FT.setL, faS_ptr, nilS_ptr, nilS_func, nilS_yield, pickS_bool, ldS_ptr, list_cells, list_ro, partS_none, lenSl_of, lenStr_of, cvInt_of, aminmax_max, aminmax_min, abin_add, abin_sub, abin_mul, abin_eql, abin_neq, abin_lss, abin_leq, abin_gtr, abin_geq, aunary_not, aextract, g1], by simp [FT.get_set, FT.setL, faS_ptr, nilS_ptr, nilS_func, nilS_yield, pickS_bool, ldS_ptr, list_cells, list_ro, partS_none, lenSl_of, lenStr_of, cvInt_of, aminmax_max, aminmax_min, abin_add, abin_sub, abin_mul, abin_eql, abin_neq, abin_lss, abin_leq, abin_gtr, abin_geq, aunary_not, aextract]⟩
      by_cases e : i = k
      · subst e; rw [hoo] at ho'; cases ho'; exact hok
      · exact hall i o' (by omega) ho'
    · simp only
      exact .inr ⟨rfl, fun hg => hno (hg k o hoo), g2, g3, hold2⟩
  · have hlt : ¬ k < os.length := by have := of_decide_eq_false hlt; omega
    refine m_exit ?_
    simp only [if_true]
    exact .inl ⟨rfl, fun i o hi hc => hall i o (by have := (List.getElem?_eq_some_iff.1 hi).1; omega) hi hc, t1, hold⟩
end Go.Proofs.Ytgkdmnfmfcdfmaa
