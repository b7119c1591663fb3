/-
  The walk through the code of blocks and of what is reached, part L23: what its functions do to memory. Nothing is asked.
-/
import Derived.Test.YtgkdmnfmfcdfmaaLa22
set_option linter.all false
namespace Go.Proofs.Ytgkdmnfmfcdfmaa
open Go Go.Ag
set_option linter.unusedVariables false
set_option maxRecDepth 100000

def LI3 (S0 : MS) (l : List Op5) (b1 b3 b5 : Nat) (m : Nat) (T : FT) (S : MS) : Prop :=
  ∃ k : Nat, k + m = l.length ∧ S = S0 ∧ T.get 1 = .pointer (some ⟨b1, 0, none⟩) ∧ T.get 3 = .pointer (some ⟨b3, 0, none⟩) ∧ T.get 5 = .pointer (some ⟨b5, 0, none⟩) ∧ T.get 7 = .int .i64 k

theorem rest3 {S : MS} {T : FT} {rr r e : Int} {gv w w' : Value} {bs : List Blk} {l : List Op5} {B B' b1 b3 b5 : Nat} (hg : Blks S gv bs) (hsm : ∀ b ∈ bs, b.ops.length ≤ 1000000) (hp : pos bs bs.length ≤ 900000) (hll : l.length ≤ 1000000)
    (hb1 : S.m b1 = some (.cells [.int .i64 rr, gv] 0)) (hb3 : S.m b3 = some (.cells [.int .i64 r, w] 0)) (hb5 : S.m b5 = some (.cells [.int .i64 r, w'] 0)) (hw : SlF opL 5 S B w l) (hw' : SlF opL 5 S B' w' l)
    (t1 : T.get 1 = .pointer (some ⟨b1, 0, none⟩)) (t3 : T.get 3 = .pointer (some ⟨b3, 0, none⟩)) (t5 : T.get 5 = .pointer (some ⟨b5, 0, none⟩)) (t4 : T.get 4 = .int .i64 e) (t6 : T.get 6 = .int .i64 e) :
    MWp Try.prog O 81 (.seq (.seq (.region 7 (ro 3 7) false) (.cond (.tmp 44) (.seq (.region 8 (ro 3 8) false) .ret) .skip)) (.seq (.seq (.region 9 (ro 3 9) false) (.block 0 (.loop (.seq (.seq (.region 10 (ro 3 10) false) (.cond (.tmp 49) .skip (.exit 0))) (.seq (.block 1 (.seq (.region 12 (ro 3 12) true) (.cond (.tmp 62) (.seq (.region 13 (ro 3 13) false) .ret) .skip))) (.region 11 (ro 3 11) false)))))) (.seq (.region 14 (ro 3 14) false) (.seq (.region 15 (ro 3 15) false) (.seq (.region 16 (ro 3 16) false) .ret))))) T S (fun x T' S' => (match x with | .exit _ => False | _ => True) ∧ ∃ vs, resM Try.prog T' S' [.tmp 2] = some vs ∧ oneOrTuple vs = .bool true) := by
  have fin : ∀ (T' : FT) (S' : MS), T'.get 2 = .bool true → ((match AExit.ret with | .exit _ => False | _ => True) ∧ ∃ vs, resM Try.prog T' S' [.tmp 2] = some vs ∧ oneOrTuple vs = .bool true) := by
    intro T' S' h4
    simp [resM, h4, oneOrTuple]
  refine m_wf fun wf => ?_
  refine m_seq (m_seq (m_reg ?_))
  rw [reg3_7]
  simp (decide := true) only [FT.get_set, FT.setL, faS_ptr, nilS_ptr, nilS_func, nilS_yield, pickS_bool, ldS_ptr, list_cells, list_ro, partS_none, lenSl_of, lenStr_of, cvInt_of, aminmax_max, aminmax_min, abin_add, abin_sub, abin_mul, abin_eql, abin_neq, abin_lss, abin_leq, abin_gtr, abin_geq, aunary_not, aextract, Option.some.injEq, Prod.mk.injEq, Value.bool.injEq, exists_eq_left', exists_and_left, and_assoc, decide_eq_true_eq, decide_eq_false_iff_not, if_true, if_false, Nat.zero_add, Nat.add_zero, Option.bind_some, true_and, and_true, forall_const, true_implies, Bool.not_eq_true, Bool.false_eq_true, false_implies, ite_self, Nat.mul_one, t3, t4, t5, t6, bne_self_eq_false, list_of hb3, list_of hb5, List.getElem?_cons_zero, List.getElem?_cons_succ, hw.lenSl, hw'.lenSl]
  refine m_cond (t := false) (by simp [evalT, FT.get_set, FT.setL, faS_ptr, nilS_ptr, nilS_func, nilS_yield, pickS_bool, ldS_ptr, list_cells, list_ro, partS_none, lenSl_of, lenStr_of, cvInt_of, aminmax_max, aminmax_min, abin_add, abin_sub, abin_mul, abin_eql, abin_neq, abin_lss, abin_leq, abin_gtr, abin_geq, aunary_not, aextract]) (fun h => by cases h) (fun _ => m_skip ?_)
  simp only
  refine m_seq (m_seq (m_reg ?_))
  rw [reg3_9]
  refine m_block (m_loop (fun m T S' => LI3 S l b1 b3 b5 m T S') l.length ⟨0, by omega, rfl, by simp [FT.get_set, FT.setL, faS_ptr, nilS_ptr, nilS_func, nilS_yield, pickS_bool, ldS_ptr, list_cells, list_ro, partS_none, lenSl_of, lenStr_of, cvInt_of, aminmax_max, aminmax_min, abin_add, abin_sub, abin_mul, abin_eql, abin_neq, abin_lss, abin_leq, abin_gtr, abin_geq, aunary_not, aextract, t1], by simp [FT.get_set, FT.setL, faS_ptr, nilS_ptr, nilS_func, nilS_yield, pickS_bool, ldS_ptr, list_cells, list_ro, partS_none, lenSl_of, lenStr_of, cvInt_of, aminmax_max, aminmax_min, abin_add, abin_sub, abin_mul, abin_eql, abin_neq, abin_lss, abin_leq, abin_gtr, abin_geq, aunary_not, aextract, t3], by simp [FT.get_set, FT.setL, faS_ptr, nilS_ptr, nilS_func, nilS_yield, pickS_bool, ldS_ptr, list_cells, list_ro, partS_none, lenSl_of, lenStr_of, cvInt_of, aminmax_max, aminmax_min, abin_add, abin_sub, abin_mul, abin_eql, abin_neq, abin_lss, abin_leq, abin_gtr, abin_geq, aunary_not, aextract, t5], by simp [FT.get_set, FT.setL, faS_ptr, nilS_ptr, nilS_func, nilS_yield, pickS_bool, ldS_ptr, list_cells, list_ro, partS_none, lenSl_of, lenStr_of, cvInt_of, aminmax_max, aminmax_min, abin_add, abin_sub, abin_mul, abin_eql, abin_neq, abin_lss, abin_leq, abin_gtr, abin_geq, aunary_not, aextract]⟩ ?_)
  clear t1 t3 t4 t5 t6
  rintro m T S1 ⟨k, hk, rfl, t1, t3, t5, t7⟩
  refine m_seq (m_seq (m_reg ?_))
  rw [reg3_10]
  simp (decide := true) only [FT.get_set, FT.setL, faS_ptr, nilS_ptr, nilS_func, nilS_yield, pickS_bool, ldS_ptr, list_cells, list_ro, partS_none, lenSl_of, lenStr_of, cvInt_of, aminmax_max, aminmax_min, abin_add, abin_sub, abin_mul, abin_eql, abin_neq, abin_lss, abin_leq, abin_gtr, abin_geq, aunary_not, aextract, Option.some.injEq, Prod.mk.injEq, Value.bool.injEq, exists_eq_left', exists_and_left, and_assoc, decide_eq_true_eq, decide_eq_false_iff_not, if_true, if_false, Nat.zero_add, Nat.add_zero, Option.bind_some, true_and, and_true, forall_const, true_implies, Bool.not_eq_true, Bool.false_eq_true, false_implies, ite_self, Nat.mul_one, t3, t7, list_of hb3, List.getElem?_cons_zero, List.getElem?_cons_succ, hw.lenSl]
  refine m_cond (t := decide ((k : Int) < l.length)) (by simp [evalT, FT.get_set, FT.setL, faS_ptr, nilS_ptr, nilS_func, nilS_yield, pickS_bool, ldS_ptr, list_cells, list_ro, partS_none, lenSl_of, lenStr_of, cvInt_of, aminmax_max, aminmax_min, abin_add, abin_sub, abin_mul, abin_eql, abin_neq, abin_lss, abin_leq, abin_gtr, abin_geq, aunary_not, aextract]) (fun hlt => ?_) (fun hlt => ?_)
  · have hlt : k < l.length := by have := of_decide_eq_true hlt; omega
    refine m_skip ?_
    simp only
    obtain ⟨o, ho⟩ : ∃ o, l[k]? = some o := ⟨_, List.getElem?_eq_getElem hlt⟩
    obtain ⟨a, _, q1, q2⟩ := hw.at opL_len ho
    obtain ⟨a', _, q3, q4⟩ := hw'.at opL_len ho
    refine m_seq (m_block (m_seq (m_draw ?_)))
    rw [reg3_12]
    simp (decide := true) only [FT.get_set, FT.setL, faS_ptr, nilS_ptr, nilS_func, nilS_yield, pickS_bool, ldS_ptr, list_cells, list_ro, partS_none, lenSl_of, lenStr_of, cvInt_of, aminmax_max, aminmax_min, abin_add, abin_sub, abin_mul, abin_eql, abin_neq, abin_lss, abin_leq, abin_gtr, abin_geq, aunary_not, aextract, Option.some.injEq, Prod.mk.injEq, Value.bool.injEq, exists_eq_left', exists_and_left, and_assoc, decide_eq_true_eq, decide_eq_false_iff_not, if_true, if_false, Nat.zero_add, Nat.add_zero, Option.bind_some, true_and, and_true, forall_const, true_implies, Bool.not_eq_true, Bool.false_eq_true, false_implies, ite_self, Nat.mul_one, t3, t5, t7, list_of hb3, list_of hb5, List.getElem?_cons_zero, List.getElem?_cons_succ, q1, q2 S1 rfl, q3, q4 S1 rfl, neq_same]
    refine m_cond (t := false) (by simp [evalT, FT.get_set, FT.setL, faS_ptr, nilS_ptr, nilS_func, nilS_yield, pickS_bool, ldS_ptr, list_cells, list_ro, partS_none, lenSl_of, lenStr_of, cvInt_of, aminmax_max, aminmax_min, abin_add, abin_sub, abin_mul, abin_eql, abin_neq, abin_lss, abin_leq, abin_gtr, abin_geq, aunary_not, aextract]) (fun h => by cases h) (fun _ => m_skip ?_)
    simp only
    refine m_reg ?_
    rw [reg3_11]
    have hwk : IntKind.i64.wrap ((k : Int) + 1) = ((k + 1 : Nat) : Int) := by rw [wrap_i64 (by omega) (by omega)]; rfl
    simp (decide := true) only [FT.get_set, FT.setL, faS_ptr, nilS_ptr, nilS_func, nilS_yield, pickS_bool, ldS_ptr, list_cells, list_ro, partS_none, lenSl_of, lenStr_of, cvInt_of, aminmax_max, aminmax_min, abin_add, abin_sub, abin_mul, abin_eql, abin_neq, abin_lss, abin_leq, abin_gtr, abin_geq, aunary_not, aextract, Option.some.injEq, Prod.mk.injEq, Value.bool.injEq, exists_eq_left', exists_and_left, and_assoc, decide_eq_true_eq, decide_eq_false_iff_not, if_true, if_false, Nat.zero_add, Nat.add_zero, Option.bind_some, true_and, and_true, forall_const, true_implies, Bool.not_eq_true, Bool.false_eq_true, false_implies, ite_self, Nat.mul_one, t7, hwk]
    exact ⟨m - 1, by omega, k + 1, by omega, rfl, by simp [FT.get_set, FT.setL, faS_ptr, nilS_ptr, nilS_func, nilS_yield, pickS_bool, ldS_ptr, list_cells, list_ro, partS_none, lenSl_of, lenStr_of, cvInt_of, aminmax_max, aminmax_min, abin_add, abin_sub, abin_mul, abin_eql, abin_neq, abin_lss, abin_leq, abin_gtr, abin_geq, aunary_not, aextract, t1], by simp [FT.get_set, FT.setL, faS_ptr, nilS_ptr, nilS_func, nilS_yield, pickS_bool, ldS_ptr, list_cells, list_ro, partS_none, lenSl_of, lenStr_of, cvInt_of, aminmax_max, aminmax_min, abin_add, abin_sub, abin_mul, abin_eql, abin_neq, abin_lss, abin_leq, abin_gtr, abin_geq, aunary_not, aextract, t3], by simp [FT.get_set, FT.setL, faS_ptr, nilS_ptr, nilS_func, nilS_yield, pickS_bool, ldS_ptr, list_cells, list_ro, partS_none, lenSl_of, lenStr_of, cvInt_of, aminmax_max, aminmax_min, abin_add, abin_sub, abin_mul, abin_eql, abin_neq, abin_lss, abin_leq, abin_gtr, abin_geq, aunary_not, aextract, t5], by simp [FT.get_set, FT.setL, faS_ptr, nilS_ptr, nilS_func, nilS_yield, pickS_bool, ldS_ptr, list_cells, list_ro, partS_none, lenSl_of, lenStr_of, cvInt_of, aminmax_max, aminmax_min, abin_add, abin_sub, abin_mul, abin_eql, abin_neq, abin_lss, abin_leq, abin_gtr, abin_geq, aunary_not, aextract]⟩
  · refine m_exit ?_
    simp only [if_true]
    refine m_seq (m_reg ?_)
    rw [reg3_14]
    simp (decide := true) only [FT.get_set, FT.setL, faS_ptr, nilS_ptr, nilS_func, nilS_yield, pickS_bool, ldS_ptr, list_cells, list_ro, partS_none, lenSl_of, lenStr_of, cvInt_of, aminmax_max, aminmax_min, abin_add, abin_sub, abin_mul, abin_eql, abin_neq, abin_lss, abin_leq, abin_gtr, abin_geq, aunary_not, aextract, Option.some.injEq, Prod.mk.injEq, Value.bool.injEq, exists_eq_left', exists_and_left, and_assoc, decide_eq_true_eq, decide_eq_false_iff_not, if_true, if_false, Nat.zero_add, Nat.add_zero, Option.bind_some, true_and, and_true, forall_const, true_implies, Bool.not_eq_true, Bool.false_eq_true, false_implies, ite_self, Nat.mul_one, t1, list_of hb1, partS_two]
    refine callM_wf_post (CallM.mono (reached11 (rr := rr) hg (by omega)) ?_)
    rintro v S2 ⟨hold2, htold⟩ wf2
    have hg2 := hg.keep wf hold2.2
    have hb2 := (hold2.2 b1 (wf _ _ hb1)).trans hb1
    rcases htold with ⟨hno, rfl⟩ | ⟨hok, ms, b, hv, hbn, hbc, rfl⟩
    · simp (decide := true) only [FT.get_set, FT.setL, faS_ptr, nilS_ptr, nilS_func, nilS_yield, pickS_bool, ldS_ptr, list_cells, list_ro, partS_none, lenSl_of, lenStr_of, cvInt_of, aminmax_max, aminmax_min, abin_add, abin_sub, abin_mul, abin_eql, abin_neq, abin_lss, abin_leq, abin_gtr, abin_geq, aunary_not, aextract, Option.some.injEq, Prod.mk.injEq, Value.bool.injEq, exists_eq_left', exists_and_left, and_assoc, decide_eq_true_eq, decide_eq_false_iff_not, if_true, if_false, Nat.zero_add, Nat.add_zero, Option.bind_some, true_and, and_true, forall_const, true_implies, Bool.not_eq_true, Bool.false_eq_true, false_implies, ite_self, Nat.mul_one, List.getElem?_cons_zero, List.getElem?_cons_succ]
      refine m_seq (m_reg ?_)
      rw [reg3_15]
      simp (decide := true) only [FT.get_set, FT.setL, faS_ptr, nilS_ptr, nilS_func, nilS_yield, pickS_bool, ldS_ptr, list_cells, list_ro, partS_none, lenSl_of, lenStr_of, cvInt_of, aminmax_max, aminmax_min, abin_add, abin_sub, abin_mul, abin_eql, abin_neq, abin_lss, abin_leq, abin_gtr, abin_geq, aunary_not, aextract, Option.some.injEq, Prod.mk.injEq, Value.bool.injEq, exists_eq_left', exists_and_left, and_assoc, decide_eq_true_eq, decide_eq_false_iff_not, if_true, if_false, Nat.zero_add, Nat.add_zero, Option.bind_some, true_and, and_true, forall_const, true_implies, Bool.not_eq_true, Bool.false_eq_true, false_implies, ite_self, Nat.mul_one, t1, list_of hb2, partS_two]
      refine CallM.mono (reached12 (rr := rr) hg2 hsm) ?_
      rintro v S3 ⟨hold3, htold⟩
      rcases htold with ⟨_, rfl⟩ | ⟨hok, _⟩
      · simp (decide := true) only [FT.get_set, FT.setL, faS_ptr, nilS_ptr, nilS_func, nilS_yield, pickS_bool, ldS_ptr, list_cells, list_ro, partS_none, lenSl_of, lenStr_of, cvInt_of, aminmax_max, aminmax_min, abin_add, abin_sub, abin_mul, abin_eql, abin_neq, abin_lss, abin_leq, abin_gtr, abin_geq, aunary_not, aextract, Option.some.injEq, Prod.mk.injEq, Value.bool.injEq, exists_eq_left', exists_and_left, and_assoc, decide_eq_true_eq, decide_eq_false_iff_not, if_true, if_false, Nat.zero_add, Nat.add_zero, Option.bind_some, true_and, and_true, forall_const, true_implies, Bool.not_eq_true, Bool.false_eq_true, false_implies, ite_self, Nat.mul_one, List.getElem?_cons_zero, List.getElem?_cons_succ]
        refine m_seq (m_reg ?_)
        rw [reg3_16]
        simp (decide := true) only [FT.get_set, FT.setL, faS_ptr, nilS_ptr, nilS_func, nilS_yield, pickS_bool, ldS_ptr, list_cells, list_ro, partS_none, lenSl_of, lenStr_of, cvInt_of, aminmax_max, aminmax_min, abin_add, abin_sub, abin_mul, abin_eql, abin_neq, abin_lss, abin_leq, abin_gtr, abin_geq, aunary_not, aextract, Option.some.injEq, Prod.mk.injEq, Value.bool.injEq, exists_eq_left', exists_and_left, and_assoc, decide_eq_true_eq, decide_eq_false_iff_not, if_true, if_false, Nat.zero_add, Nat.add_zero, Option.bind_some, true_and, and_true, forall_const, true_implies, Bool.not_eq_true, Bool.false_eq_true, false_implies, ite_self, Nat.mul_one, beq_self_eq_true]
        refine flags13 (n := 0) (by omega) rfl rfl (fun i hi => absurd hi (by omega)) ?_
        try simp (decide := true) only [FT.get_set, FT.setL, faS_ptr, nilS_ptr, nilS_func, nilS_yield, pickS_bool, ldS_ptr, list_cells, list_ro, partS_none, lenSl_of, lenStr_of, cvInt_of, aminmax_max, aminmax_min, abin_add, abin_sub, abin_mul, abin_eql, abin_neq, abin_lss, abin_leq, abin_gtr, abin_geq, aunary_not, aextract, Option.some.injEq, Prod.mk.injEq, Value.bool.injEq, exists_eq_left', exists_and_left, and_assoc, decide_eq_true_eq, decide_eq_false_iff_not, if_true, if_false, Nat.zero_add, Nat.add_zero, Option.bind_some, true_and, and_true, forall_const, true_implies, Bool.not_eq_true, Bool.false_eq_true, false_implies, ite_self, Nat.mul_one, ]
        exact m_ret (fin _ _ (by simp [FT.get_set, FT.setL, faS_ptr, nilS_ptr, nilS_func, nilS_yield, pickS_bool, ldS_ptr, list_cells, list_ro, partS_none, lenSl_of, lenStr_of, cvInt_of, aminmax_max, aminmax_min, abin_add, abin_sub, abin_mul, abin_eql, abin_neq, abin_lss, abin_leq, abin_gtr, abin_geq, aunary_not, aextract]))
      · exact absurd hok hno
    · simp (decide := true) only [FT.get_set, FT.setL, faS_ptr, nilS_ptr, nilS_func, nilS_yield, pickS_bool, ldS_ptr, list_cells, list_ro, partS_none, lenSl_of, lenStr_of, cvInt_of, aminmax_max, aminmax_min, abin_add, abin_sub, abin_mul, abin_eql, abin_neq, abin_lss, abin_leq, abin_gtr, abin_geq, aunary_not, aextract, Option.some.injEq, Prod.mk.injEq, Value.bool.injEq, exists_eq_left', exists_and_left, and_assoc, decide_eq_true_eq, decide_eq_false_iff_not, if_true, if_false, Nat.zero_add, Nat.add_zero, Option.bind_some, true_and, and_true, forall_const, true_implies, Bool.not_eq_true, Bool.false_eq_true, false_implies, ite_self, Nat.mul_one, List.getElem?_cons_zero, List.getElem?_cons_succ]
      refine m_seq (m_reg ?_)
      rw [reg3_15]
      simp (decide := true) only [FT.get_set, FT.setL, faS_ptr, nilS_ptr, nilS_func, nilS_yield, pickS_bool, ldS_ptr, list_cells, list_ro, partS_none, lenSl_of, lenStr_of, cvInt_of, aminmax_max, aminmax_min, abin_add, abin_sub, abin_mul, abin_eql, abin_neq, abin_lss, abin_leq, abin_gtr, abin_geq, aunary_not, aextract, Option.some.injEq, Prod.mk.injEq, Value.bool.injEq, exists_eq_left', exists_and_left, and_assoc, decide_eq_true_eq, decide_eq_false_iff_not, if_true, if_false, Nat.zero_add, Nat.add_zero, Option.bind_some, true_and, and_true, forall_const, true_implies, Bool.not_eq_true, Bool.false_eq_true, false_implies, ite_self, Nat.mul_one, t1, list_of hb2, partS_two]
      refine CallM.mono (reached12 (rr := rr) hg2 hsm) ?_
      rintro v S3 ⟨hold3, htold⟩
      rcases htold with ⟨hno, _⟩ | ⟨_, ms', b', hv', hbn', hbc', rfl⟩
      · exact absurd hok hno
      · have hms : ms' = ms := hv'.same hv (nxG_good hok)
        subst hms
        have hb3 : S3.m b = some (.cells (ms'.map .bool) 1) := (hold3.2 b (wf2 _ _ hbc)).trans hbc
        have hn2 := hok.2.1
        simp (decide := true) only [FT.get_set, FT.setL, faS_ptr, nilS_ptr, nilS_func, nilS_yield, pickS_bool, ldS_ptr, list_cells, list_ro, partS_none, lenSl_of, lenStr_of, cvInt_of, aminmax_max, aminmax_min, abin_add, abin_sub, abin_mul, abin_eql, abin_neq, abin_lss, abin_leq, abin_gtr, abin_geq, aunary_not, aextract, Option.some.injEq, Prod.mk.injEq, Value.bool.injEq, exists_eq_left', exists_and_left, and_assoc, decide_eq_true_eq, decide_eq_false_iff_not, if_true, if_false, Nat.zero_add, Nat.add_zero, Option.bind_some, true_and, and_true, forall_const, true_implies, Bool.not_eq_true, Bool.false_eq_true, false_implies, ite_self, Nat.mul_one, List.getElem?_cons_zero, List.getElem?_cons_succ]
        refine m_seq (m_reg ?_)
        rw [reg3_16]
        simp (decide := true) only [FT.get_set, FT.setL, faS_ptr, nilS_ptr, nilS_func, nilS_yield, pickS_bool, ldS_ptr, list_cells, list_ro, partS_none, lenSl_of, lenStr_of, cvInt_of, aminmax_max, aminmax_min, abin_add, abin_sub, abin_mul, abin_eql, abin_neq, abin_lss, abin_leq, abin_gtr, abin_geq, aunary_not, aextract, Option.some.injEq, Prod.mk.injEq, Value.bool.injEq, exists_eq_left', exists_and_left, and_assoc, decide_eq_true_eq, decide_eq_false_iff_not, if_true, if_false, Nat.zero_add, Nat.add_zero, Option.bind_some, true_and, and_true, forall_const, true_implies, Bool.not_eq_true, Bool.false_eq_true, false_implies, ite_self, Nat.mul_one, beq_self_eq_true]
        refine flags13 (n := bs.length) (by omega) (lenSl_of _ _ _) (lenSl_of _ _ _) (fun i hi => ?_) ?_
        · obtain ⟨q, hq⟩ : ∃ q, ms'[i]? = some q := ⟨_, List.getElem?_eq_getElem (by rw [hv.len]; exact hi)⟩
          have hqm : (ms'.map Value.bool)[i]? = some (.bool q) := by rw [List.getElem?_map, hq]; rfl
          have hia : ∀ x : Nat, iaSS 1 (.slice (some ⟨x, 0, none⟩) bs.length bs.length) (.int .i64 (i : Int)) = some (.pointer (some ⟨x, i, none⟩)) := fun x => by
            rw [iaSS_of (k := .i64) (i := (i : Int)) (by omega) (by omega : (i : Int) < (bs.length : Int)), Int.toNat_natCast, Nat.mul_one, Nat.zero_add]
          refine ⟨q, _, _, hia b, ?_, hia b', ?_⟩
          · rw [ldS_ptr, list_of hb3]; simp only [K.list, Option.bind_some, partS_none]; exact hqm
          · rw [ldS_ptr, list_of hbc']; simp only [K.list, Option.bind_some, partS_none]; exact hqm
        · try simp (decide := true) only [FT.get_set, FT.setL, faS_ptr, nilS_ptr, nilS_func, nilS_yield, pickS_bool, ldS_ptr, list_cells, list_ro, partS_none, lenSl_of, lenStr_of, cvInt_of, aminmax_max, aminmax_min, abin_add, abin_sub, abin_mul, abin_eql, abin_neq, abin_lss, abin_leq, abin_gtr, abin_geq, aunary_not, aextract, Option.some.injEq, Prod.mk.injEq, Value.bool.injEq, exists_eq_left', exists_and_left, and_assoc, decide_eq_true_eq, decide_eq_false_iff_not, if_true, if_false, Nat.zero_add, Nat.add_zero, Option.bind_some, true_and, and_true, forall_const, true_implies, Bool.not_eq_true, Bool.false_eq_true, false_implies, ite_self, Nat.mul_one, ]
          exact m_ret (fin _ _ (by simp [FT.get_set, FT.setL, faS_ptr, nilS_ptr, nilS_func, nilS_yield, pickS_bool, ldS_ptr, list_cells, list_ro, partS_none, lenSl_of, lenStr_of, cvInt_of, aminmax_max, aminmax_min, abin_add, abin_sub, abin_mul, abin_eql, abin_neq, abin_lss, abin_leq, abin_gtr, abin_geq, aunary_not, aextract]))

theorem law3 {S : MS} {rr : Int} {gv : Value} {bs : List Blk} (hg : Blks S gv bs) (hl : ∀ b ∈ bs, b.ops.length ≤ 1152921504606846976) (hlen : bs.length ≤ 1152921504606846976) : CallM Try.prog O 3 [fnV rr gv] S fun v _ => v = .bool true := by
  refine callM_wf fun wf => ?_
  refine callM_body (fnIs is3 body3 res3) (O_none (by decide)) (by simp) ?_
  have fin : ∀ (T' : FT) (S' : MS), T'.get 2 = .bool true → ((match AExit.ret with | .exit _ => False | _ => True) ∧ ∃ vs, resM Try.prog T' S' [.tmp 2] = some vs ∧ oneOrTuple vs = .bool true) := by
    intro T' S' h4
    simp [resM, h4, oneOrTuple]
  refine m_seq (m_reg ?_)
  rw [reg3_0]
  simp (decide := true) only [FT.get_set, FT.setL, faS_ptr, nilS_ptr, nilS_func, nilS_yield, pickS_bool, ldS_ptr, list_cells, list_ro, partS_none, lenSl_of, lenStr_of, cvInt_of, aminmax_max, aminmax_min, abin_add, abin_sub, abin_mul, abin_eql, abin_neq, abin_lss, abin_leq, abin_gtr, abin_geq, aunary_not, aextract, Option.some.injEq, Prod.mk.injEq, Value.bool.injEq, exists_eq_left', exists_and_left, and_assoc, decide_eq_true_eq, decide_eq_false_iff_not, if_true, if_false, Nat.zero_add, Nat.add_zero, Option.bind_some, true_and, and_true, forall_const, true_implies, Bool.not_eq_true, Bool.false_eq_true, false_implies, ite_self, Nat.mul_one, fnV_cells rr hg.one, ptrTo]
  have f1 : Old S (S.fresh [.int .i64 rr, gv] 0) := ⟨Nat.le_succ _, fun y hy => fresh_old _ _ _ (Nat.ne_of_lt hy)⟩
  have hb1 := fresh_at S [.int .i64 rr, gv] 0
  have hg1 := hg.keep wf f1.2
  have wf1 := wf_fresh' wf [.int .i64 rr, gv] 0
  refine m_seq (m_seq (m_reg ?_))
  rw [reg3_1]
  refine callM_known (v := .bool true) rfl ?_
  simp (decide := true) only [FT.get_set, FT.setL, faS_ptr, nilS_ptr, nilS_func, nilS_yield, pickS_bool, ldS_ptr, list_cells, list_ro, partS_none, lenSl_of, lenStr_of, cvInt_of, aminmax_max, aminmax_min, abin_add, abin_sub, abin_mul, abin_eql, abin_neq, abin_lss, abin_leq, abin_gtr, abin_geq, aunary_not, aextract, Option.some.injEq, Prod.mk.injEq, Value.bool.injEq, exists_eq_left', exists_and_left, and_assoc, decide_eq_true_eq, decide_eq_false_iff_not, if_true, if_false, Nat.zero_add, Nat.add_zero, Option.bind_some, true_and, and_true, forall_const, true_implies, Bool.not_eq_true, Bool.false_eq_true, false_implies, ite_self, Nat.mul_one, Bool.not_true]
  refine m_cond (t := false) (by simp [evalT, FT.get_set, FT.setL, faS_ptr, nilS_ptr, nilS_func, nilS_yield, pickS_bool, ldS_ptr, list_cells, list_ro, partS_none, lenSl_of, lenStr_of, cvInt_of, aminmax_max, aminmax_min, abin_add, abin_sub, abin_mul, abin_eql, abin_neq, abin_lss, abin_leq, abin_gtr, abin_geq, aunary_not, aextract]) (fun h => by cases h) (fun _ => m_skip ?_)
  simp only
  refine m_seq (m_seq (m_reg ?_))
  rw [reg3_3]
  simp (decide := true) only [FT.get_set, FT.setL, faS_ptr, nilS_ptr, nilS_func, nilS_yield, pickS_bool, ldS_ptr, list_cells, list_ro, partS_none, lenSl_of, lenStr_of, cvInt_of, aminmax_max, aminmax_min, abin_add, abin_sub, abin_mul, abin_eql, abin_neq, abin_lss, abin_leq, abin_gtr, abin_geq, aunary_not, aextract, Option.some.injEq, Prod.mk.injEq, Value.bool.injEq, exists_eq_left', exists_and_left, and_assoc, decide_eq_true_eq, decide_eq_false_iff_not, if_true, if_false, Nat.zero_add, Nat.add_zero, Option.bind_some, true_and, and_true, forall_const, true_implies, Bool.not_eq_true, Bool.false_eq_true, false_implies, ite_self, Nat.mul_one, list_of hb1, partS_two]
  refine callM_wf_post (few8 (rr := rr) hg1 hl hlen fun r0 S2 hr f2 wf2 => ?_)
  simp (decide := true) only [FT.get_set, FT.setL, faS_ptr, nilS_ptr, nilS_func, nilS_yield, pickS_bool, ldS_ptr, list_cells, list_ro, partS_none, lenSl_of, lenStr_of, cvInt_of, aminmax_max, aminmax_min, abin_add, abin_sub, abin_mul, abin_eql, abin_neq, abin_lss, abin_leq, abin_gtr, abin_geq, aunary_not, aextract, Option.some.injEq, Prod.mk.injEq, Value.bool.injEq, exists_eq_left', exists_and_left, and_assoc, decide_eq_true_eq, decide_eq_false_iff_not, if_true, if_false, Nat.zero_add, Nat.add_zero, Option.bind_some, true_and, and_true, forall_const, true_implies, Bool.not_eq_true, Bool.false_eq_true, false_implies, ite_self, Nat.mul_one, ]
  have hb2 := (f2.2 S.n (Nat.lt_succ_self _)).trans hb1
  have hg2 := hg1.keep wf1 f2.2
  cases r0 with
  | false =>
    refine m_cond (t := true) (by simp [evalT, FT.get_set, FT.setL, faS_ptr, nilS_ptr, nilS_func, nilS_yield, pickS_bool, ldS_ptr, list_cells, list_ro, partS_none, lenSl_of, lenStr_of, cvInt_of, aminmax_max, aminmax_min, abin_add, abin_sub, abin_mul, abin_eql, abin_neq, abin_lss, abin_leq, abin_gtr, abin_geq, aunary_not, aextract]) (fun _ => ?_) (fun h => by cases h)
    refine m_seq (m_reg ?_)
    rw [reg3_4]
    exact m_ret (fin _ _ (by simp [FT.get_set, FT.setL, faS_ptr, nilS_ptr, nilS_func, nilS_yield, pickS_bool, ldS_ptr, list_cells, list_ro, partS_none, lenSl_of, lenStr_of, cvInt_of, aminmax_max, aminmax_min, abin_add, abin_sub, abin_mul, abin_eql, abin_neq, abin_lss, abin_leq, abin_gtr, abin_geq, aunary_not, aextract]))
  | true =>
    have hc := hr.1 rfl
    have hp := pos_cnt bs bs.length
    have hsm : ∀ b ∈ bs, b.ops.length ≤ 1000000 := fun b hb => by have := cnt_one hb; omega
    refine m_cond (t := false) (by simp [evalT, FT.get_set, FT.setL, faS_ptr, nilS_ptr, nilS_func, nilS_yield, pickS_bool, ldS_ptr, list_cells, list_ro, partS_none, lenSl_of, lenStr_of, cvInt_of, aminmax_max, aminmax_min, abin_add, abin_sub, abin_mul, abin_eql, abin_neq, abin_lss, abin_leq, abin_gtr, abin_geq, aunary_not, aextract]) (fun h => by cases h) (fun _ => m_skip ?_)
    simp only
    refine m_seq (m_reg ?_)
    rw [reg3_5]
    simp (decide := true) only [FT.get_set, FT.setL, faS_ptr, nilS_ptr, nilS_func, nilS_yield, pickS_bool, ldS_ptr, list_cells, list_ro, partS_none, lenSl_of, lenStr_of, cvInt_of, aminmax_max, aminmax_min, abin_add, abin_sub, abin_mul, abin_eql, abin_neq, abin_lss, abin_leq, abin_gtr, abin_geq, aunary_not, aextract, Option.some.injEq, Prod.mk.injEq, Value.bool.injEq, exists_eq_left', exists_and_left, and_assoc, decide_eq_true_eq, decide_eq_false_iff_not, if_true, if_false, Nat.zero_add, Nat.add_zero, Option.bind_some, true_and, and_true, forall_const, true_implies, Bool.not_eq_true, Bool.false_eq_true, false_implies, ite_self, Nat.mul_one, list_of hb2, partS_two]
    refine callM_wf_post (CallM.mono (fn9 (rr := rr) hg2 (by omega)) ?_)
    rintro v S3 ⟨f3, htold⟩ wf3
    have hn2 : S.n + 1 ≤ S2.n := f2.1
    have hn3 := f3.1
    -- f's box
    have go : ∀ (r e : Int) (w : Value) (l : List Op5) (B : Nat), SlF opL 5 S3 B w l → l.length ≤ 1000000 → v = .tuple #[.agg #[.int .i64 r, w], .int .i64 e] → (∀ S4 v', ToldF bs rr S4 S4 v' → True) →
        (∀ v' S4 S5, ToldF bs rr S4 S5 v' → ∃ w' B', SlF opL 5 S5 B' w' l ∧ v' = .tuple #[.agg #[.int .i64 r, w'], .int .i64 e]) →
        ∃ p3, aextract v 0 = some p3 ∧ ∃ p4, aextract v 1 = some p4 ∧ ∃ S6, stS 2 (S3.fresh [.int .i64 0, .slice none 0 0] 0) (ptrTo S3.n) p3 = some S6 ∧ ∀ T, T.get 1 = .pointer (some ⟨S.n, 0, none⟩) → T.get 3 = ptrTo S3.n → T.get 4 = p4 →
          MWp Try.prog O 81 (.seq (.region 6 (ro 3 6) false) (.seq (.seq (.region 7 (ro 3 7) false) (.cond (.tmp 44) (.seq (.region 8 (ro 3 8) false) .ret) .skip)) (.seq (.seq (.region 9 (ro 3 9) false) (.block 0 (.loop (.seq (.seq (.region 10 (ro 3 10) false) (.cond (.tmp 49) .skip (.exit 0))) (.seq (.block 1 (.seq (.region 12 (ro 3 12) true) (.cond (.tmp 62) (.seq (.region 13 (ro 3 13) false) .ret) .skip))) (.region 11 (ro 3 11) false)))))) (.seq (.region 14 (ro 3 14) false) (.seq (.region 15 (ro 3 15) false) (.seq (.region 16 (ro 3 16) false) .ret)))))) T S6 (fun x T' S' => (match x with | .exit _ => False | _ => True) ∧ ∃ vs, resM Try.prog T' S' [.tmp 2] = some vs ∧ oneOrTuple vs = .bool true) := by
      rintro r e w l B hw hll rfl - hother
      obtain ⟨S4, u1, u2, u3, u4⟩ := st_all (n := 2) (cs := #[.int .i64 r, w]) (fresh_at S3 [.int .i64 0, .slice none 0 0] 0) rfl rfl (by
        show ([.int .i64 r, w] : List Value).all oneCell = true
        simp only [List.all_cons, (SlF.one hw).2]; rfl)
      refine ⟨_, rfl, _, rfl, S4, u1, fun T t1 t3 t4 => ?_⟩
      have hn4 : S4.n = S3.n + 1 := u3
      have f4 : Old S3 S4 := ⟨by omega, fun y hy => by rw [u4 y (by omega), fresh_old _ _ _ (by omega)]⟩
      have hb4 := (f4.2 S.n (by omega)).trans ((f3.2 S.n (by omega)).trans hb2)
      refine m_wf fun wf4 => m_seq (m_reg ?_)
      have hg4 := (hg2.keep wf2 f3.2).keep wf3 f4.2
      have hw4 := hw.keep (S' := S4) fun y k hy => f4.2 y (wf3 y k hy)
      rw [reg3_6]
      simp (decide := true) only [FT.get_set, FT.setL, faS_ptr, nilS_ptr, nilS_func, nilS_yield, pickS_bool, ldS_ptr, list_cells, list_ro, partS_none, lenSl_of, lenStr_of, cvInt_of, aminmax_max, aminmax_min, abin_add, abin_sub, abin_mul, abin_eql, abin_neq, abin_lss, abin_leq, abin_gtr, abin_geq, aunary_not, aextract, Option.some.injEq, Prod.mk.injEq, Value.bool.injEq, exists_eq_left', exists_and_left, and_assoc, decide_eq_true_eq, decide_eq_false_iff_not, if_true, if_false, Nat.zero_add, Nat.add_zero, Option.bind_some, true_and, and_true, forall_const, true_implies, Bool.not_eq_true, Bool.false_eq_true, false_implies, ite_self, Nat.mul_one, t1, list_of hb4, partS_two]
      refine callM_wf_post (CallM.mono (fn10 (rr := rr) hg4 hsm (by omega)) ?_)
      rintro v' S5 htold' wf5
      obtain ⟨w', B', hw', rfl⟩ := hother v' S4 S5 htold'
      have f5 := htold'.1
      have hn5 := f5.1
      obtain ⟨S6, d1, d2, d3, d4⟩ := st_all (n := 2) (cs := #[.int .i64 r, w']) (fresh_at S5 [.int .i64 0, .slice none 0 0] 0) rfl rfl (by
        show ([.int .i64 r, w'] : List Value).all oneCell = true
        simp only [List.all_cons, (SlF.one hw').2]; rfl)
      simp (decide := true) only [FT.get_set, FT.setL, faS_ptr, nilS_ptr, nilS_func, nilS_yield, pickS_bool, ldS_ptr, list_cells, list_ro, partS_none, lenSl_of, lenStr_of, cvInt_of, aminmax_max, aminmax_min, abin_add, abin_sub, abin_mul, abin_eql, abin_neq, abin_lss, abin_leq, abin_gtr, abin_geq, aunary_not, aextract, Option.some.injEq, Prod.mk.injEq, Value.bool.injEq, exists_eq_left', exists_and_left, and_assoc, decide_eq_true_eq, decide_eq_false_iff_not, if_true, if_false, Nat.zero_add, Nat.add_zero, Option.bind_some, true_and, and_true, forall_const, true_implies, Bool.not_eq_true, Bool.false_eq_true, false_implies, ite_self, Nat.mul_one, List.getElem?_cons_zero, List.getElem?_cons_succ, ptrTo]
      refine ⟨S6, d1, ?_⟩
      have f6 : Old S5 S6 := ⟨by rw [d3, fresh_n]; omega, fun y hy => by rw [d4 y (by omega), fresh_old _ _ _ (by omega)]⟩
      have t4' : T.get 4 = .int .i64 e := t4
      refine rest3 (rr := rr) (r := r) (e := e) (w := w) (w' := w') (l := l) (b1 := S.n) (b3 := S3.n) (b5 := S5.n) ((hg4.keep wf4 f5.2).keep wf5 f6.2) hsm (by omega) hll ?_ ?_ d2 ((hw4.keep fun y k hy => f5.2 y (wf4 y k hy)).keep fun y k hy => f6.2 y (wf5 y k hy)) (hw'.keep fun y k hy => f6.2 y (wf5 y k hy)) ?_ ?_ ?_ ?_ ?_
      · rw [f6.2 _ (by omega), f5.2 _ (by omega)]; exact hb4
      · rw [f6.2 _ (by omega), f5.2 _ (by omega)]; exact u2
      · simp [FT.get_set, FT.setL, faS_ptr, nilS_ptr, nilS_func, nilS_yield, pickS_bool, ldS_ptr, list_cells, list_ro, partS_none, lenSl_of, lenStr_of, cvInt_of, aminmax_max, aminmax_min, abin_add, abin_sub, abin_mul, abin_eql, abin_neq, abin_lss, abin_leq, abin_gtr, abin_geq, aunary_not, aextract, t1]
      · simp [FT.get_set, FT.setL, faS_ptr, nilS_ptr, nilS_func, nilS_yield, pickS_bool, ldS_ptr, list_cells, list_ro, partS_none, lenSl_of, lenStr_of, cvInt_of, aminmax_max, aminmax_min, abin_add, abin_sub, abin_mul, abin_eql, abin_neq, abin_lss, abin_leq, abin_gtr, abin_geq, aunary_not, aextract, t3, ptrTo]
      · simp [FT.get_set, FT.setL, faS_ptr, nilS_ptr, nilS_func, nilS_yield, pickS_bool, ldS_ptr, list_cells, list_ro, partS_none, lenSl_of, lenStr_of, cvInt_of, aminmax_max, aminmax_min, abin_add, abin_sub, abin_mul, abin_eql, abin_neq, abin_lss, abin_leq, abin_gtr, abin_geq, aunary_not, aextract]
      · simp [FT.get_set, FT.setL, faS_ptr, nilS_ptr, nilS_func, nilS_yield, pickS_bool, ldS_ptr, list_cells, list_ro, partS_none, lenSl_of, lenStr_of, cvInt_of, aminmax_max, aminmax_min, abin_add, abin_sub, abin_mul, abin_eql, abin_neq, abin_lss, abin_leq, abin_gtr, abin_geq, aunary_not, aextract, t4']
      · simp [FT.get_set, FT.setL, faS_ptr, nilS_ptr, nilS_func, nilS_yield, pickS_bool, ldS_ptr, list_cells, list_ro, partS_none, lenSl_of, lenStr_of, cvInt_of, aminmax_max, aminmax_min, abin_add, abin_sub, abin_mul, abin_eql, abin_neq, abin_lss, abin_leq, abin_gtr, abin_geq, aunary_not, aextract]
    rcases htold with ⟨hno, hv⟩ | ⟨hok, w, hw, hv⟩
    · obtain ⟨p3, e3, p4, e4, S6, e6, h⟩ := go 0 100 (.slice none 0 0) [] 0 .non (by simp) hv (fun _ _ _ => trivial) (by
        rintro v' S4 S5 ⟨_, ⟨_, h⟩ | ⟨hok, _⟩⟩
        · exact ⟨.slice none 0 0, 0, .non, h⟩
        · exact absurd hok hno)
      refine ⟨p3, e3, p4, e4, S6, e6, h _ ?_ ?_ ?_⟩
      · simp [FT.get_set, FT.setL, faS_ptr, nilS_ptr, nilS_func, nilS_yield, pickS_bool, ldS_ptr, list_cells, list_ro, partS_none, lenSl_of, lenStr_of, cvInt_of, aminmax_max, aminmax_min, abin_add, abin_sub, abin_mul, abin_eql, abin_neq, abin_lss, abin_leq, abin_gtr, abin_geq, aunary_not, aextract]
      · simp [FT.get_set, FT.setL, faS_ptr, nilS_ptr, nilS_func, nilS_yield, pickS_bool, ldS_ptr, list_cells, list_ro, partS_none, lenSl_of, lenStr_of, cvInt_of, aminmax_max, aminmax_min, abin_add, abin_sub, abin_mul, abin_eql, abin_neq, abin_lss, abin_leq, abin_gtr, abin_geq, aunary_not, aextract]
      · simp [FT.get_set, FT.setL, faS_ptr, nilS_ptr, nilS_func, nilS_yield, pickS_bool, ldS_ptr, list_cells, list_ro, partS_none, lenSl_of, lenStr_of, cvInt_of, aminmax_max, aminmax_min, abin_add, abin_sub, abin_mul, abin_eql, abin_neq, abin_lss, abin_leq, abin_gtr, abin_geq, aunary_not, aextract]
    · obtain ⟨p3, e3, p4, e4, S6, e6, h⟩ := go rr 0 w (allOps bs bs.length) _ hw (by rw [all_len]; omega) hv (fun _ _ _ => trivial) (by
        rintro v' S4 S5 ⟨_, ⟨hno, _⟩ | ⟨_, w', hw', h⟩⟩
        · exact absurd hok hno
        · exact ⟨w', _, hw', h⟩)
      refine ⟨p3, e3, p4, e4, S6, e6, h _ ?_ ?_ ?_⟩
      · simp [FT.get_set, FT.setL, faS_ptr, nilS_ptr, nilS_func, nilS_yield, pickS_bool, ldS_ptr, list_cells, list_ro, partS_none, lenSl_of, lenStr_of, cvInt_of, aminmax_max, aminmax_min, abin_add, abin_sub, abin_mul, abin_eql, abin_neq, abin_lss, abin_leq, abin_gtr, abin_geq, aunary_not, aextract]
      · simp [FT.get_set, FT.setL, faS_ptr, nilS_ptr, nilS_func, nilS_yield, pickS_bool, ldS_ptr, list_cells, list_ro, partS_none, lenSl_of, lenStr_of, cvInt_of, aminmax_max, aminmax_min, abin_add, abin_sub, abin_mul, abin_eql, abin_neq, abin_lss, abin_leq, abin_gtr, abin_geq, aunary_not, aextract]
      · simp [FT.get_set, FT.setL, faS_ptr, nilS_ptr, nilS_func, nilS_yield, pickS_bool, ldS_ptr, list_cells, list_ro, partS_none, lenSl_of, lenStr_of, cvInt_of, aminmax_max, aminmax_min, abin_add, abin_sub, abin_mul, abin_eql, abin_neq, abin_lss, abin_leq, abin_gtr, abin_geq, aunary_not, aextract]

/-! ### the argument's reading -/
theorem under22 : Try.prog.underlying 22 = some (.slice 47) := by kernel_rfl
theorem cells47 : Try.prog.cellsOf 47 = 5 := by kernel_rfl
theorem cells24 : Try.prog.cellsOf 24 = 2 := by kernel_rfl
theorem cells22 : Try.prog.cellsOf 22 = 1 := by kernel_rfl
theorem under47 : ∃ fs, Try.prog.underlying 47 = some (.struct fs) ∧ fs.toList.map (fun f => (f.type, f.offset)) = [(27, 0), (3, 1), (3, 2), (3, 3), (3, 4)] := by
  have h : (match Try.prog.underlying 47 with | some (.struct fs) => fs.toList.map (fun f => (f.type, f.offset)) | _ => []) = [(27, 0), (3, 1), (3, 2), (3, 3), (3, 4)] := by kernel_rfl
  split at h
  · rename_i fs e; exact ⟨fs, e, h⟩
  · cases h
theorem under24 : ∃ fs, Try.prog.underlying 24 = some (.struct fs) ∧ fs.toList.map (fun f => (f.type, f.offset)) = [(3, 0), (22, 1)] := by
  have h : (match Try.prog.underlying 24 with | some (.struct fs) => fs.toList.map (fun f => (f.type, f.offset)) | _ => []) = [(3, 0), (22, 1)] := by kernel_rfl
  split at h
  · rename_i fs e; exact ⟨fs, e, h⟩
  · cases h
theorem reach_le : reachBytes ≤ 1152921504606846976 := by decide

theorem first_zero (S' : MS) (sz b len cap : Nat) : firstCellsM S' sz 0 (.slice (some ⟨b, 0, none⟩) len cap) = some [] := by
  rcases b with _ | b <;> rcases len with _ | len <;> rcases cap with _ | cap <;> rfl

section
variable {H : Type} {S : MS}
theorem rd_ops2 {cs : List Value} {d : DataW H} (h : RdS Try.prog S 27 cs d) : ∃ ov os, cs = [ov] ∧ Ops S ov os ∧ (os = [] → ∀ S' sz, firstCellsM S' sz 0 ov = some []) ∧ os.length ≤ 1152921504606846976 := by
  obtain ⟨ov, os, rfl, ho⟩ := rd_ops h
  refine ⟨ov, os, rfl, ho, ?_, ?_⟩
  · rintro rfl S' sz
    cases h with
    | bool hu' => rw [under27] at hu'; cases hu'
    | int hu' => rw [under27] at hu'; cases hu'
    | string hu' _ => rw [under27] at hu'; cases hu'
    | struct hu' hl hd hr => rw [under27] at hu'; cases hu'
    | sliceNil hu' => rfl
    | sliceZ hu' => rfl
    | slice vs hu hcap hlen hmax he hs hvs hb hsz hr =>
      exact first_zero _ _ _ _ _
  · have hl := ho.len
    cases h with
    | bool hu' => rw [under27] at hu'; cases hu'
    | int hu' => rw [under27] at hu'; cases hu'
    | string hu' _ => rw [under27] at hu'; cases hu'
    | struct hu' hl hd hr => rw [under27] at hu'; cases hu'
    | sliceNil hu' => have := goInt_inj (a := 0) (b := os.length) (Option.some.inj hl); omega
    | sliceZ hu' => have := goInt_inj (a := 0) (b := os.length) (Option.some.inj hl); omega
    | slice vs hu hcap hlen hmax he hs hvs hb hsz hr =>
      rename_i len cap _ _
      have := goInt_inj (b := os.length) (Option.some.inj hl)
      have := reach_le
      omega
theorem rd_blk {x : List Value} {d : DataW H} (h : RdS Try.prog S 47 x d) : ∃ b : Blk, x = blkL b ∧ Ops S b.ov b.ops ∧ (b.ops = [] → ∀ S' sz, firstCellsM S' sz 0 b.ov = some []) ∧ b.ops.length ≤ 1152921504606846976 := by
  obtain ⟨hl, fld⟩ := rd_fields under47 h
  rw [cells47] at hl
  match x, hl with
  | [a, b, c, e, g], _ =>
    obtain ⟨_, h0⟩ := fld 0 27 0 rfl
    obtain ⟨_, h1⟩ := fld 1 3 1 rfl
    obtain ⟨_, h2⟩ := fld 2 3 2 rfl
    obtain ⟨_, h3⟩ := fld 3 3 3 rfl
    obtain ⟨_, h4⟩ := fld 4 3 4 rfl
    rw [cells27] at h0
    rw [cells3] at h1 h2 h3 h4
    obtain ⟨ov, os, e0, ho, he, hlim⟩ := rd_ops2 h0
    obtain ⟨n1, e1⟩ := rd_int under3 h1
    obtain ⟨n2, e2⟩ := rd_int under3 h2
    obtain ⟨n3, e3⟩ := rd_int under3 h3
    obtain ⟨n4, e4⟩ := rd_int under3 h4
    simp at e0 e1 e2 e3 e4
    subst e0 e1 e2 e3 e4
    exact ⟨⟨_, os, n1, n2, n3, n4⟩, rfl, ho, he, hlim⟩
theorem rd_blks {cs : List Value} {d : DataW H} (h : RdS Try.prog S 22 cs d) : ∃ gv bs, cs = [gv] ∧ Blks S gv bs ∧ (∀ b ∈ bs, b.ops.length ≤ 1152921504606846976) ∧ bs.length ≤ 1152921504606846976 := by
  have non : ∀ gv : Value, gv.cells = #[gv] → oneCell gv = true → lenSl gv = some (.int .i64 (0 : Nat)) → Blks S gv [] := fun gv h1 h2 h3 => ⟨h1, h2, h3, fun h => absurd rfl h, (fun b hb => by cases hb), (fun b hb => by cases hb)⟩
  cases h with
  | bool hu' => rw [under22] at hu'; cases hu'
  | int hu' => rw [under22] at hu'; cases hu'
  | string hu' _ => rw [under22] at hu'; cases hu'
  | struct hu' => rw [under22] at hu'; cases hu'
  | sliceNil hu' => exact ⟨_, [], rfl, non _ rfl rfl rfl, (fun b hb => by cases hb), by simp⟩
  | sliceZ hu' => exact ⟨_, [], rfl, non _ rfl rfl rfl, (fun b hb => by cases hb), by simp⟩
  | slice vs hu hcap hlen hmax he hs hvs hb hsz hr =>
    rename_i e b len cap elems spare
    rw [under22] at hu; cases hu
    rw [cells47] at hsz
    have hst : ∀ k, k < len → ∃ o : Blk, vs[k]? = some (blkL o) ∧ Ops S o.ov o.ops ∧ (o.ops = [] → ∀ S' sz, firstCellsM S' sz 0 o.ov = some []) ∧ o.ops.length ≤ 1152921504606846976 := by
      intro k hk
      have hkv : k < vs.length := by omega
      have hkd : k < (elems ++ spare).length := by rw [List.length_append]; omega
      obtain ⟨s, h1, h2, h3, h4⟩ := rd_blk (hr k _ _ (List.getElem?_eq_getElem hkv) (List.getElem?_eq_getElem hkd))
      exact ⟨s, by rw [List.getElem?_eq_getElem hkv, h1], h2, h3, h4⟩
    obtain ⟨xs, hxl, hx⟩ := list_of_each (p := fun k (s : Blk) => vs[k]? = some (blkL s) ∧ Ops S s.ov s.ops ∧ (s.ops = [] → ∀ S' sz, firstCellsM S' sz 0 s.ov = some []) ∧ s.ops.length ≤ 1152921504606846976) len hst
    have hmem : ∀ x ∈ xs, ∃ k : Nat, vs[k]? = some (blkL x) ∧ Ops S x.ov x.ops ∧ (x.ops = [] → ∀ S' sz, firstCellsM S' sz 0 x.ov = some []) ∧ x.ops.length ≤ 1152921504606846976 := fun x hxm => by
      obtain ⟨k, hk⟩ := List.getElem?_of_mem hxm
      exact ⟨k, hx k x hk⟩
    refine ⟨_, xs, rfl, ⟨rfl, rfl, by rw [lenSl_of, hxl], fun _ => ⟨b, cap, vs.flatten, by rw [hxl], hb, fun k x hk => ?_⟩, fun x hxm => (hmem x hxm).elim fun _ h => h.2.1, fun x hxm => (hmem x hxm).elim fun _ h => h.2.2.1⟩, fun x hxm => (hmem x hxm).elim fun _ h => h.2.2.2, by have := reach_le; omega⟩
    obtain ⟨g1, g2⟩ := flat_at vs k _ hsz (hx k x hk).1
    rw [partS_some _ _ _ g2, g1]; rfl
theorem rd_graph {cs : List Value} {d : DataW H} (h : RdS Try.prog S 24 cs d) : ∃ rr gv bs, cs = [.int .i64 rr, gv] ∧ Blks S gv bs ∧ (∀ b ∈ bs, b.ops.length ≤ 1152921504606846976) ∧ bs.length ≤ 1152921504606846976 := by
  obtain ⟨hl, fld⟩ := rd_fields under24 h
  rw [cells24] at hl
  match cs, hl with
  | [a, b], _ =>
    obtain ⟨_, h0⟩ := fld 0 3 0 rfl
    obtain ⟨_, h1⟩ := fld 1 22 1 rfl
    rw [cells3] at h0
    rw [cells22] at h1
    obtain ⟨n0, e0⟩ := rd_int under3 h0
    obtain ⟨gv, bs, e1, ho, hl, hn⟩ := rd_blks h1
    simp at e0 e1
    subst e0 e1
    exact ⟨_, _, bs, rfl, ho, hl, hn⟩

/-- whatever reads so: the law tells true -/
theorem run3 (ds : List (DataW H)) (vs : List Value) (h : RdSAll Try.prog S [24] vs ds) : CallM Try.prog O 3 vs S fun v _ => v = .bool true := by
  have one : ∃ a d1, vs = [a] ∧ ds = [d1] := by
    cases vs with
    | nil => exact h.elim
    | cons a vs =>
      cases ds with
      | nil => exact h.elim
      | cons d1 ds =>
        have h := h.2
        cases vs with
        | nil => cases ds with
          | nil => exact ⟨a, d1, rfl, rfl⟩
          | cons d ds => exact h.elim
        | cons b vs => exact h.elim
  obtain ⟨a, d1, rfl, rfl⟩ := one
  obtain ⟨⟨cs, r1, k1⟩, _⟩ := h
  obtain ⟨rr, gv, bs, rfl, hg, hl, hn⟩ := rd_graph r1
  rcases k1 with ⟨_, rfl⟩ | ⟨hno, _⟩
  · exact law3 hg hl hn
  · obtain ⟨fs, hf, _⟩ := under24
    exact absurd hf (hno fs)
end
end Go.Proofs.Ytgkdmnfmfcdfmaa

