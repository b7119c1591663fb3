/-
  The walk through the code of blocks and of what is reached, part L2: what its functions do to memory. Nothing is asked.
-/
import Derived.Test.YtgkdmnfmfcdfmaaLa1
set_option linter.all false
namespace Go.Proofs.Ytgkdmnfmfcdfmaa
open Go Go.Ag
set_option linter.unusedVariables false
set_option maxRecDepth 100000

theorem m_assoc2 {P : Program} {O : Known} {n : Nat} {a b c : Code} {T : FT} {S : MS} {Q : AExit → FT → MS → Prop} (h : MWp P O n (.seq a (.seq b c)) T S Q) : MWp P O n (.seq (.seq a b) c) T S Q := fun A hA => by
  obtain ⟨x, T', A', S', h1, h2, h3⟩ := h A hA
  refine ⟨x, T', A', S', ?_, h2, h3⟩
  rw [← h1]
  show ((stepC P (lim P O) a ⟨T, n⟩ A).bind _).bind _ = (stepC P (lim P O) a ⟨T, n⟩ A).bind _
  cases stepC P (lim P O) a ⟨T, n⟩ A with
  | none => rfl
  | some y =>
    obtain ⟨x, E, A1⟩ := y
    cases x <;> rfl

/-- one instruction of a block, by flow.right -/
theorem plain21 {S : MS} {T : FT} {o : Op5} {sb : Nat} (hsb : S.m sb = some (.cells (opL o) 0)) (t6 : T.get 6 = .pointer (some ⟨sb, 0, none⟩)) :
    MWp Try.prog O 78 (.seq (.region 4 (ro 21 4) false) (.cond (.tmp 26) (.seq (.region 5 (ro 21 5) false) .ret) .skip)) T S (fun x T' S' => S' = S ∧ ((x = .normal ∧ plainOp o ∧ T'.get 1 = T.get 1 ∧ T'.get 2 = T.get 2 ∧ T'.get 8 = T.get 8 ∧ T'.get 9 = T.get 9 ∧ T'.get 10 = T.get 10) ∨ (x = .ret ∧ ¬ plainOp o ∧ T'.get 4 = .bool false))) := by
  have bad : ∀ T', ¬ plainOp o → T'.get 26 = .bool true → MWp Try.prog O 78 (.cond (.tmp 26) (.seq (.region 5 (ro 21 5) false) .ret) .skip) T' S (fun x T' S' => S' = S ∧ ((x = .normal ∧ plainOp o ∧ T'.get 1 = T.get 1 ∧ T'.get 2 = T.get 2 ∧ T'.get 8 = T.get 8 ∧ T'.get 9 = T.get 9 ∧ T'.get 10 = T.get 10) ∨ (x = .ret ∧ ¬ plainOp o ∧ T'.get 4 = .bool false))) := by
    intro T' hno h
    refine m_cond (t := true) h (fun _ => ?_) (fun h => by cases h)
    refine m_seq (m_reg ?_)
    rw [reg21_5]
    exact m_ret ⟨rfl, .inr ⟨rfl, hno, by simp [FT.get_set, FT.setL, faS_ptr, nilS_ptr, nilS_func, nilS_yield, pickS_bool, ldS_ptr, list_cells, list_ro, partS_none, lenSl_of, lenStr_of, cvInt_of, aminmax_max, aminmax_min, abin_add, abin_sub, abin_mul, abin_eql, abin_neq, abin_lss, abin_leq, abin_gtr, abin_geq, aunary_not, aextract]⟩⟩
  have good : ∀ T', plainOp o → T'.get 26 = .bool false → T'.get 1 = T.get 1 → T'.get 2 = T.get 2 → T'.get 8 = T.get 8 → T'.get 9 = T.get 9 → T'.get 10 = T.get 10 → MWp Try.prog O 78 (.cond (.tmp 26) (.seq (.region 5 (ro 21 5) false) .ret) .skip) T' S (fun x T' S' => S' = S ∧ ((x = .normal ∧ plainOp o ∧ T'.get 1 = T.get 1 ∧ T'.get 2 = T.get 2 ∧ T'.get 8 = T.get 8 ∧ T'.get 9 = T.get 9 ∧ T'.get 10 = T.get 10) ∨ (x = .ret ∧ ¬ plainOp o ∧ T'.get 4 = .bool false))) := by
    intro T' hok h h1 h2 h8 h9 h10
    exact m_cond (t := false) h (fun h => by cases h) (fun _ => m_skip ⟨rfl, .inl ⟨rfl, hok, h1, h2, h8, h9, h10⟩⟩)
  refine m_seq (m_reg ?_)
  rw [reg21_4]
  by_cases h38 : o.c = 38
  · have e38 : (o.c == 38) = true := by simp [h38]
    simp (decide := true) only [FT.get_set, FT.setL, faS_ptr, nilS_ptr, nilS_func, nilS_yield, pickS_bool, ldS_ptr, list_cells, list_ro, partS_none, lenSl_of, lenStr_of, cvInt_of, aminmax_max, aminmax_min, abin_add, abin_sub, abin_mul, abin_eql, abin_neq, abin_lss, abin_leq, abin_gtr, abin_geq, aunary_not, aextract, Option.some.injEq, Prod.mk.injEq, Value.bool.injEq, exists_eq_left', exists_and_left, and_assoc, decide_eq_true_eq, decide_eq_false_iff_not, if_true, if_false, Nat.zero_add, Nat.add_zero, Option.bind_some, true_and, and_true, forall_const, true_implies, Bool.not_eq_true, Bool.false_eq_true, false_implies, ite_self, Nat.mul_one, t6, list_of hsb, ol0, e38]
    exact bad _ (fun h => h.1 h38) (by simp [FT.get_set, FT.setL, faS_ptr, nilS_ptr, nilS_func, nilS_yield, pickS_bool, ldS_ptr, list_cells, list_ro, partS_none, lenSl_of, lenStr_of, cvInt_of, aminmax_max, aminmax_min, abin_add, abin_sub, abin_mul, abin_eql, abin_neq, abin_lss, abin_leq, abin_gtr, abin_geq, aunary_not, aextract])
  have e38 : (o.c == 38) = false := by simp [h38]
  by_cases h39 : o.c = 39
  · have e39 : (o.c == 39) = true := by simp [h39]
    simp (decide := true) only [FT.get_set, FT.setL, faS_ptr, nilS_ptr, nilS_func, nilS_yield, pickS_bool, ldS_ptr, list_cells, list_ro, partS_none, lenSl_of, lenStr_of, cvInt_of, aminmax_max, aminmax_min, abin_add, abin_sub, abin_mul, abin_eql, abin_neq, abin_lss, abin_leq, abin_gtr, abin_geq, aunary_not, aextract, Option.some.injEq, Prod.mk.injEq, Value.bool.injEq, exists_eq_left', exists_and_left, and_assoc, decide_eq_true_eq, decide_eq_false_iff_not, if_true, if_false, Nat.zero_add, Nat.add_zero, Option.bind_some, true_and, and_true, forall_const, true_implies, Bool.not_eq_true, Bool.false_eq_true, false_implies, ite_self, Nat.mul_one, t6, list_of hsb, ol0, e38, e39]
    exact bad _ (fun h => h.2.1 h39) (by simp [FT.get_set, FT.setL, faS_ptr, nilS_ptr, nilS_func, nilS_yield, pickS_bool, ldS_ptr, list_cells, list_ro, partS_none, lenSl_of, lenStr_of, cvInt_of, aminmax_max, aminmax_min, abin_add, abin_sub, abin_mul, abin_eql, abin_neq, abin_lss, abin_leq, abin_gtr, abin_geq, aunary_not, aextract])
  have e39 : (o.c == 39) = false := by simp [h39]
  by_cases h40 : o.c = 40
  · have e40 : (o.c == 40) = true := by simp [h40]
    simp (decide := true) only [FT.get_set, FT.setL, faS_ptr, nilS_ptr, nilS_func, nilS_yield, pickS_bool, ldS_ptr, list_cells, list_ro, partS_none, lenSl_of, lenStr_of, cvInt_of, aminmax_max, aminmax_min, abin_add, abin_sub, abin_mul, abin_eql, abin_neq, abin_lss, abin_leq, abin_gtr, abin_geq, aunary_not, aextract, Option.some.injEq, Prod.mk.injEq, Value.bool.injEq, exists_eq_left', exists_and_left, and_assoc, decide_eq_true_eq, decide_eq_false_iff_not, if_true, if_false, Nat.zero_add, Nat.add_zero, Option.bind_some, true_and, and_true, forall_const, true_implies, Bool.not_eq_true, Bool.false_eq_true, false_implies, ite_self, Nat.mul_one, t6, list_of hsb, ol0, e38, e39, e40]
    exact bad _ (fun h => h.2.2 h40) (by simp [FT.get_set, FT.setL, faS_ptr, nilS_ptr, nilS_func, nilS_yield, pickS_bool, ldS_ptr, list_cells, list_ro, partS_none, lenSl_of, lenStr_of, cvInt_of, aminmax_max, aminmax_min, abin_add, abin_sub, abin_mul, abin_eql, abin_neq, abin_lss, abin_leq, abin_gtr, abin_geq, aunary_not, aextract])
  have e40 : (o.c == 40) = false := by simp [h40]
  simp (decide := true) only [FT.get_set, FT.setL, faS_ptr, nilS_ptr, nilS_func, nilS_yield, pickS_bool, ldS_ptr, list_cells, list_ro, partS_none, lenSl_of, lenStr_of, cvInt_of, aminmax_max, aminmax_min, abin_add, abin_sub, abin_mul, abin_eql, abin_neq, abin_lss, abin_leq, abin_gtr, abin_geq, aunary_not, aextract, Option.some.injEq, Prod.mk.injEq, Value.bool.injEq, exists_eq_left', exists_and_left, and_assoc, decide_eq_true_eq, decide_eq_false_iff_not, if_true, if_false, Nat.zero_add, Nat.add_zero, Option.bind_some, true_and, and_true, forall_const, true_implies, Bool.not_eq_true, Bool.false_eq_true, false_implies, ite_self, Nat.mul_one, t6, list_of hsb, ol0, e38, e39, e40]
  exact good _ ⟨h38, h39, h40⟩ (by simp [FT.get_set, FT.setL, faS_ptr, nilS_ptr, nilS_func, nilS_yield, pickS_bool, ldS_ptr, list_cells, list_ro, partS_none, lenSl_of, lenStr_of, cvInt_of, aminmax_max, aminmax_min, abin_add, abin_sub, abin_mul, abin_eql, abin_neq, abin_lss, abin_leq, abin_gtr, abin_geq, aunary_not, aextract]) (by simp [FT.get_set, FT.setL, faS_ptr, nilS_ptr, nilS_func, nilS_yield, pickS_bool, ldS_ptr, list_cells, list_ro, partS_none, lenSl_of, lenStr_of, cvInt_of, aminmax_max, aminmax_min, abin_add, abin_sub, abin_mul, abin_eql, abin_neq, abin_lss, abin_leq, abin_gtr, abin_geq, aunary_not, aextract]) (by simp [FT.get_set, FT.setL, faS_ptr, nilS_ptr, nilS_func, nilS_yield, pickS_bool, ldS_ptr, list_cells, list_ro, partS_none, lenSl_of, lenStr_of, cvInt_of, aminmax_max, aminmax_min, abin_add, abin_sub, abin_mul, abin_eql, abin_neq, abin_lss, abin_leq, abin_gtr, abin_geq, aunary_not, aextract]) (by simp [FT.get_set, FT.setL, faS_ptr, nilS_ptr, nilS_func, nilS_yield, pickS_bool, ldS_ptr, list_cells, list_ro, partS_none, lenSl_of, lenStr_of, cvInt_of, aminmax_max, aminmax_min, abin_add, abin_sub, abin_mul, abin_eql, abin_neq, abin_lss, abin_leq, abin_gtr, abin_geq, aunary_not, aextract]) (by simp [FT.get_set, FT.setL, faS_ptr, nilS_ptr, nilS_func, nilS_yield, pickS_bool, ldS_ptr, list_cells, list_ro, partS_none, lenSl_of, lenStr_of, cvInt_of, aminmax_max, aminmax_min, abin_add, abin_sub, abin_mul, abin_eql, abin_neq, abin_lss, abin_leq, abin_gtr, abin_geq, aunary_not, aextract]) (by simp [FT.get_set, FT.setL, faS_ptr, nilS_ptr, nilS_func, nilS_yield, pickS_bool, ldS_ptr, list_cells, list_ro, partS_none, lenSl_of, lenStr_of, cvInt_of, aminmax_max, aminmax_min, abin_add, abin_sub, abin_mul, abin_eql, abin_neq, abin_lss, abin_leq, abin_gtr, abin_geq, aunary_not, aextract])

def RI21 (S0 : MS) (b : Blk) (n : Int) (bx : Nat) (m : Nat) (T : FT) (S : MS) : Prop :=
  ∃ k : Nat, k + m = b.ops.length ∧ (∀ (i : Nat) o, i < k → b.ops[i]? = some o → plainOp o) ∧ Old S0 S ∧ T.get 1 = .int .i64 n ∧ T.get 2 = .pointer (some ⟨bx, 0, none⟩) ∧ T.get 8 = b.ov ∧ T.get 9 = .int .i64 b.ops.length ∧ T.get 10 = .int .i64 k

/-- flow.right: may a block be? -/
theorem right21 {S : MS} {b : Blk} {n : Int} (ho : Ops S b.ov b.ops) (hlen : b.ops.length ≤ 1000000) {Q : Value → MS → Prop} (hq : ∀ (r : Bool) S', (r = true ↔ okB n b) → Old S S' → Q (.bool r) S') : CallM Try.prog O 21 [blkV b, .int .i64 n] S Q := by
  refine callM_wf fun wf => ?_
  refine callM_body (fnIs is21 body21 res21) (O_none (by decide)) (by simp) ?_
  refine m_seq (m_reg ?_)
  rw [reg21_0]
  simp (decide := true) only [FT.get_set, FT.setL, faS_ptr, nilS_ptr, nilS_func, nilS_yield, pickS_bool, ldS_ptr, list_cells, list_ro, partS_none, lenSl_of, lenStr_of, cvInt_of, aminmax_max, aminmax_min, abin_add, abin_sub, abin_mul, abin_eql, abin_neq, abin_lss, abin_leq, abin_gtr, abin_geq, aunary_not, aextract, Option.some.injEq, Prod.mk.injEq, Value.bool.injEq, exists_eq_left', exists_and_left, and_assoc, decide_eq_true_eq, decide_eq_false_iff_not, if_true, if_false, Nat.zero_add, Nat.add_zero, Option.bind_some, true_and, and_true, forall_const, true_implies, Bool.not_eq_true, Bool.false_eq_true, false_implies, ite_self, Nat.mul_one, blkV_cells, ptrTo]
  have f1 : Old S (S.fresh (blkL b) 0) := ⟨Nat.le_succ _, fun y hy => fresh_old _ _ _ (Nat.ne_of_lt hy)⟩
  have hbx := fresh_at S (blkL b) 0
  have wf1 := wf_fresh' wf (blkL b) 0
  have ho1 := ho.keep wf f1.2
  refine m_seq (m_seq (m_reg ?_))
  rw [reg21_1]
  simp (decide := true) only [FT.get_set, FT.setL, faS_ptr, nilS_ptr, nilS_func, nilS_yield, pickS_bool, ldS_ptr, list_cells, list_ro, partS_none, lenSl_of, lenStr_of, cvInt_of, aminmax_max, aminmax_min, abin_add, abin_sub, abin_mul, abin_eql, abin_neq, abin_lss, abin_leq, abin_gtr, abin_geq, aunary_not, aextract, Option.some.injEq, Prod.mk.injEq, Value.bool.injEq, exists_eq_left', exists_and_left, and_assoc, decide_eq_true_eq, decide_eq_false_iff_not, if_true, if_false, Nat.zero_add, Nat.add_zero, Option.bind_some, true_and, and_true, forall_const, true_implies, Bool.not_eq_true, Bool.false_eq_true, false_implies, ite_self, Nat.mul_one, list_of hbx, bl0, ho.len]
  refine m_block (m_loop (fun m T S' => RI21 (S.fresh (blkL b) 0) b n S.n m T S') b.ops.length ⟨0, by omega, fun i o hi => absurd hi (by omega), Old.refl _, by simp [FT.get_set, FT.setL, faS_ptr, nilS_ptr, nilS_func, nilS_yield, pickS_bool, ldS_ptr, list_cells, list_ro, partS_none, lenSl_of, lenStr_of, cvInt_of, aminmax_max, aminmax_min, abin_add, abin_sub, abin_mul, abin_eql, abin_neq, abin_lss, abin_leq, abin_gtr, abin_geq, aunary_not, aextract], by simp [FT.get_set, FT.setL, faS_ptr, nilS_ptr, nilS_func, nilS_yield, pickS_bool, ldS_ptr, list_cells, list_ro, partS_none, lenSl_of, lenStr_of, cvInt_of, aminmax_max, aminmax_min, abin_add, abin_sub, abin_mul, abin_eql, abin_neq, abin_lss, abin_leq, abin_gtr, abin_geq, aunary_not, aextract], by simp [FT.get_set, FT.setL, faS_ptr, nilS_ptr, nilS_func, nilS_yield, pickS_bool, ldS_ptr, list_cells, list_ro, partS_none, lenSl_of, lenStr_of, cvInt_of, aminmax_max, aminmax_min, abin_add, abin_sub, abin_mul, abin_eql, abin_neq, abin_lss, abin_leq, abin_gtr, abin_geq, aunary_not, aextract], by simp [FT.get_set, FT.setL, faS_ptr, nilS_ptr, nilS_func, nilS_yield, pickS_bool, ldS_ptr, list_cells, list_ro, partS_none, lenSl_of, lenStr_of, cvInt_of, aminmax_max, aminmax_min, abin_add, abin_sub, abin_mul, abin_eql, abin_neq, abin_lss, abin_leq, abin_gtr, abin_geq, aunary_not, aextract], by simp [FT.get_set, FT.setL, faS_ptr, nilS_ptr, nilS_func, nilS_yield, pickS_bool, ldS_ptr, list_cells, list_ro, partS_none, lenSl_of, lenStr_of, cvInt_of, aminmax_max, aminmax_min, abin_add, abin_sub, abin_mul, abin_eql, abin_neq, abin_lss, abin_leq, abin_gtr, abin_geq, aunary_not, aextract]⟩ ?_)
  rintro m T S1 ⟨k, hk, hall, hold, t1, t2, t8, t9, t10⟩
  have ho2 := ho1.keep wf1 hold.2
  have hbx1 := (hold.2 S.n (Nat.lt_succ_self _)).trans hbx
  refine m_seq (m_reg ?_)
  rw [reg21_2]
  simp (decide := true) only [FT.get_set, FT.setL, faS_ptr, nilS_ptr, nilS_func, nilS_yield, pickS_bool, ldS_ptr, list_cells, list_ro, partS_none, lenSl_of, lenStr_of, cvInt_of, aminmax_max, aminmax_min, abin_add, abin_sub, abin_mul, abin_eql, abin_neq, abin_lss, abin_leq, abin_gtr, abin_geq, aunary_not, aextract, Option.some.injEq, Prod.mk.injEq, Value.bool.injEq, exists_eq_left', exists_and_left, and_assoc, decide_eq_true_eq, decide_eq_false_iff_not, if_true, if_false, Nat.zero_add, Nat.add_zero, Option.bind_some, true_and, and_true, forall_const, true_implies, Bool.not_eq_true, Bool.false_eq_true, false_implies, ite_self, Nat.mul_one, t9, t10]
  refine m_seq (m_cond (t := decide ((k : Int) < b.ops.length)) (by simp [evalT, FT.get_set, FT.setL, faS_ptr, nilS_ptr, nilS_func, nilS_yield, pickS_bool, ldS_ptr, list_cells, list_ro, partS_none, lenSl_of, lenStr_of, cvInt_of, aminmax_max, aminmax_min, abin_add, abin_sub, abin_mul, abin_eql, abin_neq, abin_lss, abin_leq, abin_gtr, abin_geq, aunary_not, aextract]) (fun hlt => ?_) (fun hlt => ?_))
  · have hlt : k < b.ops.length := by have := of_decide_eq_true hlt; omega
    refine m_skip ?_
    simp only
    obtain ⟨o, hoo⟩ : ∃ o, b.ops[k]? = some o := ⟨_, List.getElem?_eq_getElem hlt⟩
    obtain ⟨p, hp1, hp2⟩ := ho2.at hoo
    refine m_seq (m_block (m_seq (m_reg ?_)))
    rw [reg21_3]
    simp (decide := true) only [FT.get_set, FT.setL, faS_ptr, nilS_ptr, nilS_func, nilS_yield, pickS_bool, ldS_ptr, list_cells, list_ro, partS_none, lenSl_of, lenStr_of, cvInt_of, aminmax_max, aminmax_min, abin_add, abin_sub, abin_mul, abin_eql, abin_neq, abin_lss, abin_leq, abin_gtr, abin_geq, aunary_not, aextract, Option.some.injEq, Prod.mk.injEq, Value.bool.injEq, exists_eq_left', exists_and_left, and_assoc, decide_eq_true_eq, decide_eq_false_iff_not, if_true, if_false, Nat.zero_add, Nat.add_zero, Option.bind_some, true_and, and_true, forall_const, true_implies, Bool.not_eq_true, Bool.false_eq_true, false_implies, ite_self, Nat.mul_one, t8, t10, hp1, hp2, ptrTo]
    obtain ⟨S2, s1, s2, s3, s4⟩ := st_all (n := 5) (cs := (opL o).toArray) (fresh_at S1 [.int .i64 0, .int .i64 0, .int .i64 0, .int .i64 0, .int .i64 0] 0) rfl rfl rfl
    have hs2 : S2.m S1.n = some (.cells (opL o) 0) := s2
    refine ⟨S2, s1, ?_⟩
    have f2 : Old S1 S2 := ⟨by rw [s3, fresh_n]; omega, fun y hy => by rw [s4 y (by omega), fresh_old _ _ _ (by omega)]⟩
    refine MWp.mono (plain21 hs2 ?_) ?_
    · simp [FT.get_set, FT.setL, faS_ptr, nilS_ptr, nilS_func, nilS_yield, pickS_bool, ldS_ptr, list_cells, list_ro, partS_none, lenSl_of, lenStr_of, cvInt_of, aminmax_max, aminmax_min, abin_add, abin_sub, abin_mul, abin_eql, abin_neq, abin_lss, abin_leq, abin_gtr, abin_geq, aunary_not, aextract]
    rintro x T3 S3 ⟨rfl, hx⟩
    rcases hx with ⟨rfl, hok, g1, g2, g8, g9, g10⟩ | ⟨rfl, hno, g4⟩
    · simp only
      refine m_reg ?_
      rw [reg21_6]
      have t10' : T3.get 10 = .int .i64 k := by rw [g10]; simp [FT.get_set, FT.setL, faS_ptr, nilS_ptr, nilS_func, nilS_yield, pickS_bool, ldS_ptr, list_cells, list_ro, partS_none, lenSl_of, lenStr_of, cvInt_of, aminmax_max, aminmax_min, abin_add, abin_sub, abin_mul, abin_eql, abin_neq, abin_lss, abin_leq, abin_gtr, abin_geq, aunary_not, aextract, t10]
      simp (decide := true) only [FT.get_set, FT.setL, faS_ptr, nilS_ptr, nilS_func, nilS_yield, pickS_bool, ldS_ptr, list_cells, list_ro, partS_none, lenSl_of, lenStr_of, cvInt_of, aminmax_max, aminmax_min, abin_add, abin_sub, abin_mul, abin_eql, abin_neq, abin_lss, abin_leq, abin_gtr, abin_geq, aunary_not, aextract, Option.some.injEq, Prod.mk.injEq, Value.bool.injEq, exists_eq_left', exists_and_left, and_assoc, decide_eq_true_eq, decide_eq_false_iff_not, if_true, if_false, Nat.zero_add, Nat.add_zero, Option.bind_some, true_and, and_true, forall_const, true_implies, Bool.not_eq_true, Bool.false_eq_true, false_implies, ite_self, Nat.mul_one, t10']
      have hw : IntKind.i64.wrap ((k : Int) + 1) = ((k + 1 : Nat) : Int) := by rw [wrap_i64 (by omega) (by omega)]; rfl
      rw [hw]
      refine ⟨m - 1, by omega, k + 1, by omega, fun i o' hi ho' => ?_, hold.trans f2, by simp [FT.get_set, FT.setL, faS_ptr, nilS_ptr, nilS_func, nilS_yield, pickS_bool, ldS_ptr, list_cells, list_ro, partS_none, lenSl_of, lenStr_of, cvInt_of, aminmax_max, aminmax_min, abin_add, abin_sub, abin_mul, abin_eql, abin_neq, abin_lss, abin_leq, abin_gtr, abin_geq, aunary_not, aextract, g1, t1], by simp [FT.get_set, FT.setL, faS_ptr, nilS_ptr, nilS_func, nilS_yield, pickS_bool, ldS_ptr, list_cells, list_ro, partS_none, lenSl_of, lenStr_of, cvInt_of, aminmax_max, aminmax_min, abin_add, abin_sub, abin_mul, abin_eql, abin_neq, abin_lss, abin_leq, abin_gtr, abin_geq, aunary_not, aextract, g2, t2], by simp [FT.get_set, FT.setL, faS_ptr, nilS_ptr, nilS_func, nilS_yield, pickS_bool, ldS_ptr, list_cells, list_ro, partS_none, lenSl_of, lenStr_of, cvInt_of, aminmax_max, aminmax_min, abin_add, abin_sub, abin_mul, abin_eql, abin_neq, abin_lss, abin_leq, abin_gtr, abin_geq, aunary_not, aextract, g8, t8], by simp [FT.get_set, FT.setL, faS_ptr, nilS_ptr, nilS_func, nilS_yield, pickS_bool, ldS_ptr, list_cells, list_ro, partS_none, lenSl_of, lenStr_of, cvInt_of, aminmax_max, aminmax_min, abin_add, abin_sub, abin_mul, abin_eql, abin_neq, abin_lss, abin_leq, abin_gtr, abin_geq, aunary_not, aextract, g9, t9], by simp [FT.get_set, FT.setL, faS_ptr, nilS_ptr, nilS_func, nilS_yield, pickS_bool, ldS_ptr, list_cells, list_ro, partS_none, lenSl_of, lenStr_of, cvInt_of, aminmax_max, aminmax_min, abin_add, abin_sub, abin_mul, abin_eql, abin_neq, abin_lss, abin_leq, abin_gtr, abin_geq, aunary_not, aextract]⟩
      by_cases e : i = k
      · subst e; rw [hoo] at ho'; cases ho'; exact hok
      · exact hall i o' (by omega) ho'
    · simp only
      simp [resM, g4, oneOrTuple]
      refine hq false _ ?_ ((f1.trans hold).trans f2)
      simp
      exact fun h => hno (h.1 o (List.mem_of_getElem? hoo))
  · have hlt : ¬ k < b.ops.length := by have := of_decide_eq_false hlt; omega
    refine m_exit ?_
    simp only [if_true]
    have hpl : ∀ o ∈ b.ops, plainOp o := fun o hom => by
      obtain ⟨i, hi⟩ := List.getElem?_of_mem hom
      exact hall i o (by have := (List.getElem?_eq_some_iff.1 hi).1; omega) hi
    refine m_assoc2 (m_seq (m_reg ?_))
    rw [reg21_7]
    simp (decide := true) only [FT.get_set, FT.setL, faS_ptr, nilS_ptr, nilS_func, nilS_yield, pickS_bool, ldS_ptr, list_cells, list_ro, partS_none, lenSl_of, lenStr_of, cvInt_of, aminmax_max, aminmax_min, abin_add, abin_sub, abin_mul, abin_eql, abin_neq, abin_lss, abin_leq, abin_gtr, abin_geq, aunary_not, aextract, Option.some.injEq, Prod.mk.injEq, Value.bool.injEq, exists_eq_left', exists_and_left, and_assoc, decide_eq_true_eq, decide_eq_false_iff_not, if_true, if_false, Nat.zero_add, Nat.add_zero, Option.bind_some, true_and, and_true, forall_const, true_implies, Bool.not_eq_true, Bool.false_eq_true, false_implies, ite_self, Nat.mul_one, t2, list_of hbx1, bl1]
    refine MWp.mono (end21 (b := b) (n := n) hbx1 ?_ ?_ ?_) ?_
    · simp [FT.get_set, FT.setL, faS_ptr, nilS_ptr, nilS_func, nilS_yield, pickS_bool, ldS_ptr, list_cells, list_ro, partS_none, lenSl_of, lenStr_of, cvInt_of, aminmax_max, aminmax_min, abin_add, abin_sub, abin_mul, abin_eql, abin_neq, abin_lss, abin_leq, abin_gtr, abin_geq, aunary_not, aextract, t1]
    · simp [FT.get_set, FT.setL, faS_ptr, nilS_ptr, nilS_func, nilS_yield, pickS_bool, ldS_ptr, list_cells, list_ro, partS_none, lenSl_of, lenStr_of, cvInt_of, aminmax_max, aminmax_min, abin_add, abin_sub, abin_mul, abin_eql, abin_neq, abin_lss, abin_leq, abin_gtr, abin_geq, aunary_not, aextract, t2]
    · simp [FT.get_set, FT.setL, faS_ptr, nilS_ptr, nilS_func, nilS_yield, pickS_bool, ldS_ptr, list_cells, list_ro, partS_none, lenSl_of, lenStr_of, cvInt_of, aminmax_max, aminmax_min, abin_add, abin_sub, abin_mul, abin_eql, abin_neq, abin_lss, abin_leq, abin_gtr, abin_geq, aunary_not, aextract]
    rintro x T5 S5 ⟨rfl, r, h4, hr, hold5⟩
    simp [resM, h4, oneOrTuple]
    exact hq r _ ⟨fun h => ⟨hpl, hr.1 h⟩, fun h => hr.2 h.2⟩ ((f1.trans hold).trans hold5)
end Go.Proofs.Ytgkdmnfmfcdfmaa

