/-
  The walk through the code of blocks and of what is reached, part L4: what its functions do to memory. Nothing is asked.
-/
import Derived.Test.YtgkdmnfmfcdfmaaLa3
set_option linter.all false
namespace Go.Proofs.Ytgkdmnfmfcdfmaa
open Go Go.Ag
set_option linter.unusedVariables false
set_option maxRecDepth 100000

def PP38 (o : Op5) (T : FT) (S : MS) (x : AExit) (T' : FT) (S' : MS) : Prop := S' = S ∧ ((x = .normal ∧ plainOp o ∧ T'.get 1 = T.get 1 ∧ T'.get 2 = T.get 2 ∧ T'.get 5 = T.get 5) ∨ (x = .ret ∧ ¬ plainOp o ∧ T'.get 4 = .bool false))
theorem plain38 {S : MS} {T : FT} {o : Op5} (t6 : T.get 6 = .int .i64 o.c) :
    MWp Try.prog O 89 (.seq (.region 5 (ro 38 5) false) (.cond (.tmp 30) (.seq (.region 6 (ro 38 6) false) .ret) .skip)) T S (PP38 o T S) := by
  have bad : ∀ T', ¬ plainOp o → T'.get 30 = .bool true → MWp Try.prog O 89 (.cond (.tmp 30) (.seq (.region 6 (ro 38 6) false) .ret) .skip) T' S (PP38 o T S) := by
    intro T' hno h
    refine m_cond (t := true) h (fun _ => ?_) (fun h => by cases h)
    refine m_seq (m_reg ?_)
    rw [reg38_6]
    exact m_ret ⟨rfl, .inr ⟨rfl, hno, by simp [FT.get_set, FT.setL, faS_ptr, nilS_ptr, nilS_func, nilS_yield, pickS_bool, ldS_ptr, list_cells, list_ro, partS_none, lenSl_of, lenStr_of, cvInt_of, aminmax_max, aminmax_min, abin_add, abin_sub, abin_mul, abin_eql, abin_neq, abin_lss, abin_leq, abin_gtr, abin_geq, aunary_not, aextract]⟩⟩
  have good : ∀ T', plainOp o → T'.get 30 = .bool false → T'.get 1 = T.get 1 → T'.get 2 = T.get 2 → T'.get 5 = T.get 5 → MWp Try.prog O 89 (.cond (.tmp 30) (.seq (.region 6 (ro 38 6) false) .ret) .skip) T' S (PP38 o T S) := by
    intro T' hok h h1 h2 h5
    exact m_cond (t := false) h (fun h => by cases h) (fun _ => m_skip ⟨rfl, .inl ⟨rfl, hok, h1, h2, h5⟩⟩)
  refine m_seq (m_reg ?_)
  rw [reg38_5]
  by_cases h38 : o.c = 38
  · have e38 : (o.c == 38) = true := by simp [h38]
    simp (decide := true) only [FT.get_set, FT.setL, faS_ptr, nilS_ptr, nilS_func, nilS_yield, pickS_bool, ldS_ptr, list_cells, list_ro, partS_none, lenSl_of, lenStr_of, cvInt_of, aminmax_max, aminmax_min, abin_add, abin_sub, abin_mul, abin_eql, abin_neq, abin_lss, abin_leq, abin_gtr, abin_geq, aunary_not, aextract, Option.some.injEq, Prod.mk.injEq, Value.bool.injEq, exists_eq_left', exists_and_left, and_assoc, decide_eq_true_eq, decide_eq_false_iff_not, if_true, if_false, Nat.zero_add, Nat.add_zero, Option.bind_some, true_and, and_true, forall_const, true_implies, Bool.not_eq_true, Bool.false_eq_true, false_implies, ite_self, Nat.mul_one, t6, e38]
    exact bad _ (fun h => h.1 h38) (by simp [FT.get_set, FT.setL, faS_ptr, nilS_ptr, nilS_func, nilS_yield, pickS_bool, ldS_ptr, list_cells, list_ro, partS_none, lenSl_of, lenStr_of, cvInt_of, aminmax_max, aminmax_min, abin_add, abin_sub, abin_mul, abin_eql, abin_neq, abin_lss, abin_leq, abin_gtr, abin_geq, aunary_not, aextract])
  have e38 : (o.c == 38) = false := by simp [h38]
  by_cases h39 : o.c = 39
  · have e39 : (o.c == 39) = true := by simp [h39]
    simp (decide := true) only [FT.get_set, FT.setL, faS_ptr, nilS_ptr, nilS_func, nilS_yield, pickS_bool, ldS_ptr, list_cells, list_ro, partS_none, lenSl_of, lenStr_of, cvInt_of, aminmax_max, aminmax_min, abin_add, abin_sub, abin_mul, abin_eql, abin_neq, abin_lss, abin_leq, abin_gtr, abin_geq, aunary_not, aextract, Option.some.injEq, Prod.mk.injEq, Value.bool.injEq, exists_eq_left', exists_and_left, and_assoc, decide_eq_true_eq, decide_eq_false_iff_not, if_true, if_false, Nat.zero_add, Nat.add_zero, Option.bind_some, true_and, and_true, forall_const, true_implies, Bool.not_eq_true, Bool.false_eq_true, false_implies, ite_self, Nat.mul_one, t6, e38, e39]
    exact bad _ (fun h => h.2.1 h39) (by simp [FT.get_set, FT.setL, faS_ptr, nilS_ptr, nilS_func, nilS_yield, pickS_bool, ldS_ptr, list_cells, list_ro, partS_none, lenSl_of, lenStr_of, cvInt_of, aminmax_max, aminmax_min, abin_add, abin_sub, abin_mul, abin_eql, abin_neq, abin_lss, abin_leq, abin_gtr, abin_geq, aunary_not, aextract])
  have e39 : (o.c == 39) = false := by simp [h39]
  by_cases h40 : o.c = 40
  · have e40 : (o.c == 40) = true := by simp [h40]
    simp (decide := true) only [FT.get_set, FT.setL, faS_ptr, nilS_ptr, nilS_func, nilS_yield, pickS_bool, ldS_ptr, list_cells, list_ro, partS_none, lenSl_of, lenStr_of, cvInt_of, aminmax_max, aminmax_min, abin_add, abin_sub, abin_mul, abin_eql, abin_neq, abin_lss, abin_leq, abin_gtr, abin_geq, aunary_not, aextract, Option.some.injEq, Prod.mk.injEq, Value.bool.injEq, exists_eq_left', exists_and_left, and_assoc, decide_eq_true_eq, decide_eq_false_iff_not, if_true, if_false, Nat.zero_add, Nat.add_zero, Option.bind_some, true_and, and_true, forall_const, true_implies, Bool.not_eq_true, Bool.false_eq_true, false_implies, ite_self, Nat.mul_one, t6, e38, e39, e40]
    exact bad _ (fun h => h.2.2 h40) (by simp [FT.get_set, FT.setL, faS_ptr, nilS_ptr, nilS_func, nilS_yield, pickS_bool, ldS_ptr, list_cells, list_ro, partS_none, lenSl_of, lenStr_of, cvInt_of, aminmax_max, aminmax_min, abin_add, abin_sub, abin_mul, abin_eql, abin_neq, abin_lss, abin_leq, abin_gtr, abin_geq, aunary_not, aextract])
  have e40 : (o.c == 40) = false := by simp [h40]
  simp (decide := true) only [FT.get_set, FT.setL, faS_ptr, nilS_ptr, nilS_func, nilS_yield, pickS_bool, ldS_ptr, list_cells, list_ro, partS_none, lenSl_of, lenStr_of, cvInt_of, aminmax_max, aminmax_min, abin_add, abin_sub, abin_mul, abin_eql, abin_neq, abin_lss, abin_leq, abin_gtr, abin_geq, aunary_not, aextract, Option.some.injEq, Prod.mk.injEq, Value.bool.injEq, exists_eq_left', exists_and_left, and_assoc, decide_eq_true_eq, decide_eq_false_iff_not, if_true, if_false, Nat.zero_add, Nat.add_zero, Option.bind_some, true_and, and_true, forall_const, true_implies, Bool.not_eq_true, Bool.false_eq_true, false_implies, ite_self, Nat.mul_one, t6, e38, e39, e40]
  exact good _ ⟨h38, h39, h40⟩ (by simp [FT.get_set, FT.setL, faS_ptr, nilS_ptr, nilS_func, nilS_yield, pickS_bool, ldS_ptr, list_cells, list_ro, partS_none, lenSl_of, lenStr_of, cvInt_of, aminmax_max, aminmax_min, abin_add, abin_sub, abin_mul, abin_eql, abin_neq, abin_lss, abin_leq, abin_gtr, abin_geq, aunary_not, aextract]) (by simp [FT.get_set, FT.setL, faS_ptr, nilS_ptr, nilS_func, nilS_yield, pickS_bool, ldS_ptr, list_cells, list_ro, partS_none, lenSl_of, lenStr_of, cvInt_of, aminmax_max, aminmax_min, abin_add, abin_sub, abin_mul, abin_eql, abin_neq, abin_lss, abin_leq, abin_gtr, abin_geq, aunary_not, aextract]) (by simp [FT.get_set, FT.setL, faS_ptr, nilS_ptr, nilS_func, nilS_yield, pickS_bool, ldS_ptr, list_cells, list_ro, partS_none, lenSl_of, lenStr_of, cvInt_of, aminmax_max, aminmax_min, abin_add, abin_sub, abin_mul, abin_eql, abin_neq, abin_lss, abin_leq, abin_gtr, abin_geq, aunary_not, aextract]) (by simp [FT.get_set, FT.setL, faS_ptr, nilS_ptr, nilS_func, nilS_yield, pickS_bool, ldS_ptr, list_cells, list_ro, partS_none, lenSl_of, lenStr_of, cvInt_of, aminmax_max, aminmax_min, abin_add, abin_sub, abin_mul, abin_eql, abin_neq, abin_lss, abin_leq, abin_gtr, abin_geq, aunary_not, aextract])

def RI38 (S0 : MS) (b : Blk) (n : Int) (bx : Nat) (m : Nat) (T : FT) (S : MS) : Prop :=
  ∃ k : Nat, k + m = b.ops.length ∧ (∀ (i : Nat) o, i < k → b.ops[i]? = some o → plainOp o) ∧ S = S0 ∧ T.get 1 = .int .i64 n ∧ T.get 2 = .pointer (some ⟨bx, 0, none⟩) ∧ T.get 5 = .int .i64 k

/-- isBlock, of the reference -/
theorem block38 {S : MS} {b : Blk} {n : Int} (ho : Ops S b.ov b.ops) (hlen : b.ops.length ≤ 1000000) {Q : Value → MS → Prop} (hq : ∀ (r : Bool) S', (r = true ↔ okB n b) → Old S S' → Q (.bool r) S') : CallM Try.prog O 38 [blkV b, .int .i64 n] S Q := by
  refine callM_wf fun wf => ?_
  refine callM_body (fnIs is38 body38 res38) (O_none (by decide)) (by simp) ?_
  refine m_seq (m_reg ?_)
  rw [reg38_0]
  simp (decide := true) only [FT.get_set, FT.setL, faS_ptr, nilS_ptr, nilS_func, nilS_yield, pickS_bool, ldS_ptr, list_cells, list_ro, partS_none, lenSl_of, lenStr_of, cvInt_of, aminmax_max, aminmax_min, abin_add, abin_sub, abin_mul, abin_eql, abin_neq, abin_lss, abin_leq, abin_gtr, abin_geq, aunary_not, aextract, Option.some.injEq, Prod.mk.injEq, Value.bool.injEq, exists_eq_left', exists_and_left, and_assoc, decide_eq_true_eq, decide_eq_false_iff_not, if_true, if_false, Nat.zero_add, Nat.add_zero, Option.bind_some, true_and, and_true, forall_const, true_implies, Bool.not_eq_true, Bool.false_eq_true, false_implies, ite_self, Nat.mul_one, blkV_cells, ptrTo]
  have f1 : Old S (S.fresh (blkL b) 0) := ⟨Nat.le_succ _, fun y hy => fresh_old _ _ _ (Nat.ne_of_lt hy)⟩
  have hbx := fresh_at S (blkL b) 0
  have wf1 := wf_fresh' wf (blkL b) 0
  have ho1 := ho.keep wf f1.2
  refine m_seq (m_seq (m_reg ?_))
  rw [reg38_1]
  refine m_block (m_loop (fun m T S' => RI38 (S.fresh (blkL b) 0) b n S.n m T S') b.ops.length ⟨0, by omega, fun i o hi => absurd hi (by omega), rfl, by simp [FT.get_set, FT.setL, faS_ptr, nilS_ptr, nilS_func, nilS_yield, pickS_bool, ldS_ptr, list_cells, list_ro, partS_none, lenSl_of, lenStr_of, cvInt_of, aminmax_max, aminmax_min, abin_add, abin_sub, abin_mul, abin_eql, abin_neq, abin_lss, abin_leq, abin_gtr, abin_geq, aunary_not, aextract], by simp [FT.get_set, FT.setL, faS_ptr, nilS_ptr, nilS_func, nilS_yield, pickS_bool, ldS_ptr, list_cells, list_ro, partS_none, lenSl_of, lenStr_of, cvInt_of, aminmax_max, aminmax_min, abin_add, abin_sub, abin_mul, abin_eql, abin_neq, abin_lss, abin_leq, abin_gtr, abin_geq, aunary_not, aextract], by simp [FT.get_set, FT.setL, faS_ptr, nilS_ptr, nilS_func, nilS_yield, pickS_bool, ldS_ptr, list_cells, list_ro, partS_none, lenSl_of, lenStr_of, cvInt_of, aminmax_max, aminmax_min, abin_add, abin_sub, abin_mul, abin_eql, abin_neq, abin_lss, abin_leq, abin_gtr, abin_geq, aunary_not, aextract]⟩ ?_)
  rintro m T S1 ⟨k, hk, hall, rfl, t1, t2, t5⟩
  refine m_seq (m_seq (m_reg ?_))
  rw [reg38_2]
  simp (decide := true) only [FT.get_set, FT.setL, faS_ptr, nilS_ptr, nilS_func, nilS_yield, pickS_bool, ldS_ptr, list_cells, list_ro, partS_none, lenSl_of, lenStr_of, cvInt_of, aminmax_max, aminmax_min, abin_add, abin_sub, abin_mul, abin_eql, abin_neq, abin_lss, abin_leq, abin_gtr, abin_geq, aunary_not, aextract, Option.some.injEq, Prod.mk.injEq, Value.bool.injEq, exists_eq_left', exists_and_left, and_assoc, decide_eq_true_eq, decide_eq_false_iff_not, if_true, if_false, Nat.zero_add, Nat.add_zero, Option.bind_some, true_and, and_true, forall_const, true_implies, Bool.not_eq_true, Bool.false_eq_true, false_implies, ite_self, Nat.mul_one, t2, t5, list_of hbx, bl0, ho.len]
  refine m_cond (t := decide ((k : Int) < b.ops.length)) (by simp [evalT, FT.get_set, FT.setL, faS_ptr, nilS_ptr, nilS_func, nilS_yield, pickS_bool, ldS_ptr, list_cells, list_ro, partS_none, lenSl_of, lenStr_of, cvInt_of, aminmax_max, aminmax_min, abin_add, abin_sub, abin_mul, abin_eql, abin_neq, abin_lss, abin_leq, abin_gtr, abin_geq, aunary_not, aextract]) (fun hlt => ?_) (fun hlt => ?_)
  · have hlt : k < b.ops.length := by have := of_decide_eq_true hlt; omega
    refine m_skip ?_
    simp only
    obtain ⟨o, hoo⟩ : ∃ o, b.ops[k]? = some o := ⟨_, List.getElem?_eq_getElem hlt⟩
    obtain ⟨p, p', hp1, hp2, hp3⟩ := ho1.at0 hoo
    refine m_seq (m_block (m_seq (m_reg ?_)))
    rw [reg38_4]
    simp (decide := true) only [FT.get_set, FT.setL, faS_ptr, nilS_ptr, nilS_func, nilS_yield, pickS_bool, ldS_ptr, list_cells, list_ro, partS_none, lenSl_of, lenStr_of, cvInt_of, aminmax_max, aminmax_min, abin_add, abin_sub, abin_mul, abin_eql, abin_neq, abin_lss, abin_leq, abin_gtr, abin_geq, aunary_not, aextract, Option.some.injEq, Prod.mk.injEq, Value.bool.injEq, exists_eq_left', exists_and_left, and_assoc, decide_eq_true_eq, decide_eq_false_iff_not, if_true, if_false, Nat.zero_add, Nat.add_zero, Option.bind_some, true_and, and_true, forall_const, true_implies, Bool.not_eq_true, Bool.false_eq_true, false_implies, ite_self, Nat.mul_one, t2, t5, list_of hbx, bl0, hp1, hp2, hp3]
    refine MWp.mono (plain38 (o := o) ?_) ?_
    · simp [FT.get_set, FT.setL, faS_ptr, nilS_ptr, nilS_func, nilS_yield, pickS_bool, ldS_ptr, list_cells, list_ro, partS_none, lenSl_of, lenStr_of, cvInt_of, aminmax_max, aminmax_min, abin_add, abin_sub, abin_mul, abin_eql, abin_neq, abin_lss, abin_leq, abin_gtr, abin_geq, aunary_not, aextract]
    rintro x T3 S3 ⟨rfl, hx⟩
    rcases hx with ⟨rfl, hok, g1, g2, g5⟩ | ⟨rfl, hno, g4⟩
    · simp only
      refine m_reg ?_
      rw [reg38_3]
      have t5' : T3.get 5 = .int .i64 k := by rw [g5]; simp [FT.get_set, FT.setL, faS_ptr, nilS_ptr, nilS_func, nilS_yield, pickS_bool, ldS_ptr, list_cells, list_ro, partS_none, lenSl_of, lenStr_of, cvInt_of, aminmax_max, aminmax_min, abin_add, abin_sub, abin_mul, abin_eql, abin_neq, abin_lss, abin_leq, abin_gtr, abin_geq, aunary_not, aextract, t5]
      simp (decide := true) only [FT.get_set, FT.setL, faS_ptr, nilS_ptr, nilS_func, nilS_yield, pickS_bool, ldS_ptr, list_cells, list_ro, partS_none, lenSl_of, lenStr_of, cvInt_of, aminmax_max, aminmax_min, abin_add, abin_sub, abin_mul, abin_eql, abin_neq, abin_lss, abin_leq, abin_gtr, abin_geq, aunary_not, aextract, Option.some.injEq, Prod.mk.injEq, Value.bool.injEq, exists_eq_left', exists_and_left, and_assoc, decide_eq_true_eq, decide_eq_false_iff_not, if_true, if_false, Nat.zero_add, Nat.add_zero, Option.bind_some, true_and, and_true, forall_const, true_implies, Bool.not_eq_true, Bool.false_eq_true, false_implies, ite_self, Nat.mul_one, t5']
      have hw : IntKind.i64.wrap ((k : Int) + 1) = ((k + 1 : Nat) : Int) := by rw [wrap_i64 (by omega) (by omega)]; rfl
      rw [hw]
      refine ⟨m - 1, by omega, k + 1, by omega, fun i o' hi ho' => ?_, rfl, by simp [FT.get_set, FT.setL, faS_ptr, nilS_ptr, nilS_func, nilS_yield, pickS_bool, ldS_ptr, list_cells, list_ro, partS_none, lenSl_of, lenStr_of, cvInt_of, aminmax_max, aminmax_min, abin_add, abin_sub, abin_mul, abin_eql, abin_neq, abin_lss, abin_leq, abin_gtr, abin_geq, aunary_not, aextract, g1, t1], by simp [FT.get_set, FT.setL, faS_ptr, nilS_ptr, nilS_func, nilS_yield, pickS_bool, ldS_ptr, list_cells, list_ro, partS_none, lenSl_of, lenStr_of, cvInt_of, aminmax_max, aminmax_min, abin_add, abin_sub, abin_mul, abin_eql, abin_neq, abin_lss, abin_leq, abin_gtr, abin_geq, aunary_not, aextract, g2, t2], by simp [FT.get_set, FT.setL, faS_ptr, nilS_ptr, nilS_func, nilS_yield, pickS_bool, ldS_ptr, list_cells, list_ro, partS_none, lenSl_of, lenStr_of, cvInt_of, aminmax_max, aminmax_min, abin_add, abin_sub, abin_mul, abin_eql, abin_neq, abin_lss, abin_leq, abin_gtr, abin_geq, aunary_not, aextract]⟩
      by_cases e : i = k
      · subst e; rw [hoo] at ho'; cases ho'; exact hok
      · exact hall i o' (by omega) ho'
    · simp only
      simp [resM, g4, oneOrTuple]
      refine hq false _ ?_ f1
      simp
      exact fun h => hno (h.1 o (List.mem_of_getElem? hoo))
  · have hlt : ¬ k < b.ops.length := by have := of_decide_eq_false hlt; omega
    refine m_exit ?_
    simp only [if_true]
    have hpl : ∀ o ∈ b.ops, plainOp o := fun o hom => by
      obtain ⟨i, hi⟩ := List.getElem?_of_mem hom
      exact hall i o (by have := (List.getElem?_eq_some_iff.1 hi).1; omega) hi
    have fin : ∀ T, T.get 1 = .int .i64 n → T.get 2 = .pointer (some ⟨S.n, 0, none⟩) → T.get 7 = .bool (decide (0 ≤ b.t ∧ b.t < n)) → ∀ Q' : AExit → FT → MS → Prop, (∀ T' S' (r : Bool), T'.get 4 = .bool r → (r = true ↔ endOk n b) → Old (S.fresh (blkL b) 0) S' → Q' .ret T' S') → MWp Try.prog O 89 (.seq (.seq (.region 8 (ro 38 8) false) (.block 2 (.seq (.region 9 (ro 38 9) false) (.cond (.tmp 42) (.seq (.region 10 (ro 38 10) false) .ret) (.seq (.region 11 (ro 38 11) false) (.cond (.tmp 55) (.seq (.region 12 (ro 38 12) false) .ret) (.seq (.region 13 (ro 38 13) false) (.cond (.tmp 74) (.seq (.region 14 (ro 38 14) false) .ret) .skip)))))))) (.seq (.region 15 (ro 38 15) false) .ret)) T (S.fresh (blkL b) 0) Q' := by
      intro T t1 t2 t7 Q' hq'
      refine MWp.mono (end38 (b := b) (n := n) hbx t1 t2 t7) ?_
      rintro x T5 S5 ⟨rfl, r, h4, hr, hold5⟩
      exact hq' _ _ r h4 hr hold5
    have post : ∀ (T' : FT) (S' : MS) (r : Bool), T'.get 4 = .bool r → (r = true ↔ endOk n b) → Old (S.fresh (blkL b) 0) S' → ((match AExit.ret with | .exit _ => False | _ => True) ∧ ∃ vs, resM Try.prog T' S' [.tmp 4] = some vs ∧ Q (oneOrTuple vs) S') := by
      intro T' S' r h4 hr hold
      simp [resM, h4, oneOrTuple]
      exact hq r _ ⟨fun h => ⟨hpl, hr.1 h⟩, fun h => hr.2 h.2⟩ (f1.trans hold)
    refine m_seq (m_reg ?_)
    rw [reg38_7]
    simp (decide := true) only [FT.get_set, FT.setL, faS_ptr, nilS_ptr, nilS_func, nilS_yield, pickS_bool, ldS_ptr, list_cells, list_ro, partS_none, lenSl_of, lenStr_of, cvInt_of, aminmax_max, aminmax_min, abin_add, abin_sub, abin_mul, abin_eql, abin_neq, abin_lss, abin_leq, abin_gtr, abin_geq, aunary_not, aextract, Option.some.injEq, Prod.mk.injEq, Value.bool.injEq, exists_eq_left', exists_and_left, and_assoc, decide_eq_true_eq, decide_eq_false_iff_not, if_true, if_false, Nat.zero_add, Nat.add_zero, Option.bind_some, true_and, and_true, forall_const, true_implies, Bool.not_eq_true, Bool.false_eq_true, false_implies, ite_self, Nat.mul_one, t1, t2, list_of hbx, bl3]
    refine ⟨fun h0 => ?_, fun h0 => ?_⟩
    · refine fin _ (by simp [FT.get_set, FT.setL, faS_ptr, nilS_ptr, nilS_func, nilS_yield, pickS_bool, ldS_ptr, list_cells, list_ro, partS_none, lenSl_of, lenStr_of, cvInt_of, aminmax_max, aminmax_min, abin_add, abin_sub, abin_mul, abin_eql, abin_neq, abin_lss, abin_leq, abin_gtr, abin_geq, aunary_not, aextract, t1]) (by simp [FT.get_set, FT.setL, faS_ptr, nilS_ptr, nilS_func, nilS_yield, pickS_bool, ldS_ptr, list_cells, list_ro, partS_none, lenSl_of, lenStr_of, cvInt_of, aminmax_max, aminmax_min, abin_add, abin_sub, abin_mul, abin_eql, abin_neq, abin_lss, abin_leq, abin_gtr, abin_geq, aunary_not, aextract, t2]) ?_ _ post
      have h0' : (0 : Int) ≤ b.t := h0
      simp [FT.get_set, FT.setL, faS_ptr, nilS_ptr, nilS_func, nilS_yield, pickS_bool, ldS_ptr, list_cells, list_ro, partS_none, lenSl_of, lenStr_of, cvInt_of, aminmax_max, aminmax_min, abin_add, abin_sub, abin_mul, abin_eql, abin_neq, abin_lss, abin_leq, abin_gtr, abin_geq, aunary_not, aextract, h0']
    · refine fin _ (by simp [FT.get_set, FT.setL, faS_ptr, nilS_ptr, nilS_func, nilS_yield, pickS_bool, ldS_ptr, list_cells, list_ro, partS_none, lenSl_of, lenStr_of, cvInt_of, aminmax_max, aminmax_min, abin_add, abin_sub, abin_mul, abin_eql, abin_neq, abin_lss, abin_leq, abin_gtr, abin_geq, aunary_not, aextract, t1]) (by simp [FT.get_set, FT.setL, faS_ptr, nilS_ptr, nilS_func, nilS_yield, pickS_bool, ldS_ptr, list_cells, list_ro, partS_none, lenSl_of, lenStr_of, cvInt_of, aminmax_max, aminmax_min, abin_add, abin_sub, abin_mul, abin_eql, abin_neq, abin_lss, abin_leq, abin_gtr, abin_geq, aunary_not, aextract, t2]) ?_ _ post
      have h0' : ¬ (0 : Int) ≤ b.t := h0
      simp [FT.get_set, FT.setL, faS_ptr, nilS_ptr, nilS_func, nilS_yield, pickS_bool, ldS_ptr, list_cells, list_ro, partS_none, lenSl_of, lenStr_of, cvInt_of, aminmax_max, aminmax_min, abin_add, abin_sub, abin_mul, abin_eql, abin_neq, abin_lss, abin_leq, abin_gtr, abin_geq, aunary_not, aextract, h0']
end Go.Proofs.Ytgkdmnfmfcdfmaa

