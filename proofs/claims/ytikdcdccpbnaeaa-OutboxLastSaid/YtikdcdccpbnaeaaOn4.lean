/-
  The walk through the outbox's code: what its functions do to memory, part On4. Nothing is asked.
-/
import Derived.Test.YtikdcdccpbnaeaaOn3
set_option linter.all false
namespace Go.Proofs.Ytikdcdccpbnaeaa
open Go Go.Ag
set_option linter.unusedVariables false
set_option maxRecDepth 100000

theorem map_set_bool (g : List Bool) (k : Nat) (b : Bool) : (g.map Value.bool).set k (.bool b) = (g.set k b).map Value.bool := by
  rw [List.map_set]

theorem tail4 {S0 S : MS} {G : List Em} {g : List Bool} {r mb gb k : Nat} {T : FT} (hr : IsR S r mb G) (hgr : gb ≠ r ∧ gb ≠ mb) (hb : S.m gb = some (.cells (g.map Value.bool) 0)) (hgl : g.length = 41) (hs : Seen G (g.set k true)) (hk : k ≤ 40) (hcnt : G.length ≤ 100)
    (hold : Old S0 S) (hr0 : S0.n ≤ r) (hm0 : S0.n ≤ mb) (hg0 : S0.n ≤ gb)
    (t3 : T.get 3 = .pointer (some ⟨r, 0, none⟩)) (t4 : T.get 4 = .pointer (some ⟨gb, 0, none⟩)) (t5 : T.get 5 = .int .i64 G.length) (t7 : T.get 7 = .int .i64 k) :
    MWp Try.prog O 68 (.seq (.region 17 (ro 4 17) false) (.seq (.region 18 (ro 4 18) false) (.seq (.block 2 (.loop (.seq (.seq (.region 19 (ro 4 19) false) (.cond (.tmp 54) .skip (.exit 2))) (.block 3 (.region 20 (ro 4 20) false))))) (.seq (.region 21 (ro 4 21) false) (.cond (.tmp 67) (.seq (.region 22 (ro 4 22) false) .ret) .skip))))) T S
      (fun x T' S' => x = .normal ∧ Old S0 S' ∧ IsR S' r mb G ∧ S'.m gb = some (.cells ((g.set k true).map Value.bool) 0) ∧ ∀ j, j ≤ 7 → T'.get j = T.get j) := by
  refine m_seq (m_reg ?_)
  rw [reg4_17]
  obtain ⟨S1, s1, s2, s3, s4⟩ := st_one (off := k) (v := .bool true) hb (by simp [hgl]; omega) rfl rfl
  simp (decide := true) only [FT.get_set, FT.setL, faS_ptr, nilS_ptr, nilS_func, nilS_yield, pickS_bool, ldS_ptr, list_cells, list_ro, partS_none, lenSl_of, lenStr_of, cvInt_of, aminmax_max, aminmax_min, abin_add, abin_sub, abin_mul, abin_eql, abin_neq, abin_lss, abin_leq, abin_gtr, abin_geq, aunary_not, aextract, Option.some.injEq, Prod.mk.injEq, Value.bool.injEq, exists_eq_left', exists_and_left, and_assoc, decide_eq_true_eq, decide_eq_false_iff_not, if_true, if_false, Nat.zero_add, Nat.add_zero, Option.bind_some, true_and, and_true, forall_const, true_implies, Bool.not_eq_true, Bool.false_eq_true, false_implies, ite_self, Nat.mul_one, t4, t7, ia41 gb k (by omega)]
  refine ⟨S1, s1, ?_⟩
  rw [map_set_bool] at s2
  have old1 : Old S0 S1 := ⟨by rw [s3]; exact hold.1, fun y hy => by rw [s4 y (by omega), hold.2 y hy]⟩
  have hr1 : IsR S1 r mb G := hr.keep (s4 r (Ne.symm hgr.1)) (s4 mb (Ne.symm hgr.2))
  refine m_seq (m_reg ?_)
  rw [reg4_18]
  refine m_seq (MWp.mono (inner4 (T := ((T.set (.int .i64 k) 45).set (.pointer (some ⟨gb, k, none⟩)) 46).set (.int .i64 0) 9) s2 hs (by simp [FT.get_set, FT.setL, faS_ptr, nilS_ptr, nilS_func, nilS_yield, pickS_bool, ldS_ptr, list_cells, list_ro, partS_none, lenSl_of, lenStr_of, cvInt_of, aminmax_max, aminmax_min, abin_add, abin_sub, abin_mul, abin_eql, abin_neq, abin_lss, abin_leq, abin_gtr, abin_geq, aunary_not, aextract, t4]) (by simp [FT.get_set, FT.setL, faS_ptr, nilS_ptr, nilS_func, nilS_yield, pickS_bool, ldS_ptr, list_cells, list_ro, partS_none, lenSl_of, lenStr_of, cvInt_of, aminmax_max, aminmax_min, abin_add, abin_sub, abin_mul, abin_eql, abin_neq, abin_lss, abin_leq, abin_gtr, abin_geq, aunary_not, aextract])) ?_)
  rintro _ T2 _ ⟨rfl, rfl, n, hn, hall, hnot, q9, hq⟩
  have q : ∀ j, j ≤ 7 → T2.get j = T.get j := fun j hj => by
    rw [hq j (by omega)]
    simp only [FT.get_set]
    repeat rw [if_neg (by omega)]
  simp only
  refine m_wf fun wf1 => m_seq (m_reg ?_)
  rw [reg4_21, q 3 (by decide), t3]
  refine last12 hr1 fun n2 hall2 hnot2 => ?_
  have hnn : n2 = n := by
    rcases Nat.lt_trichotomy n2 n with h | h | h
    · exact absurd (hall (n2 + 1) (by omega) (by omega)) hnot2
    · exact h
    · exfalso
      have h1 := hall2 (n + 1) (by omega) (by omega)
      by_cases h40 : n < 40
      · exact hnot h40 h1
      · obtain ⟨t, ht⟩ := h1
        have := hs.top _ ht
        simp only at this; omega
  subst hnn
  simp (decide := true) only [FT.get_set, FT.setL, faS_ptr, nilS_ptr, nilS_func, nilS_yield, pickS_bool, ldS_ptr, list_cells, list_ro, partS_none, lenSl_of, lenStr_of, cvInt_of, aminmax_max, aminmax_min, abin_add, abin_sub, abin_mul, abin_eql, abin_neq, abin_lss, abin_leq, abin_gtr, abin_geq, aunary_not, aextract, Option.some.injEq, Prod.mk.injEq, Value.bool.injEq, exists_eq_left', exists_and_left, and_assoc, decide_eq_true_eq, decide_eq_false_iff_not, if_true, if_false, Nat.zero_add, Nat.add_zero, Option.bind_some, true_and, and_true, forall_const, true_implies, Bool.not_eq_true, Bool.false_eq_true, false_implies, ite_self, Nat.mul_one, q9, bne_self_eq_false]
  refine got13 hr1 (by omega) fun v out S3 f3 hv hso => ?_
  have hlen := hv.lenSl
  rw [hso.len] at hlen
  simp (decide := true) only [FT.get_set, FT.setL, faS_ptr, nilS_ptr, nilS_func, nilS_yield, pickS_bool, ldS_ptr, list_cells, list_ro, partS_none, lenSl_of, lenStr_of, cvInt_of, aminmax_max, aminmax_min, abin_add, abin_sub, abin_mul, abin_eql, abin_neq, abin_lss, abin_leq, abin_gtr, abin_geq, aunary_not, aextract, Option.some.injEq, Prod.mk.injEq, Value.bool.injEq, exists_eq_left', exists_and_left, and_assoc, decide_eq_true_eq, decide_eq_false_iff_not, if_true, if_false, Nat.zero_add, Nat.add_zero, Option.bind_some, true_and, and_true, forall_const, true_implies, Bool.not_eq_true, Bool.false_eq_true, false_implies, ite_self, Nat.mul_one, hlen, q 5 (by decide), t5, bne_self_eq_false]
  refine m_cond (t := false) (by simp [evalT, FT.get_set, FT.setL, faS_ptr, nilS_ptr, nilS_func, nilS_yield, pickS_bool, ldS_ptr, list_cells, list_ro, partS_none, lenSl_of, lenStr_of, cvInt_of, aminmax_max, aminmax_min, abin_add, abin_sub, abin_mul, abin_eql, abin_neq, abin_lss, abin_leq, abin_gtr, abin_geq, aunary_not, aextract]) (fun h => by cases h) (fun _ => m_skip ?_)
  have e3 : Old S0 S3 := old1.trans f3
  refine ⟨rfl, e3, hr1.old wf1 f3, (f3.2 _ (wf1 _ _ s2)).trans s2, fun j hj => ?_⟩
  rw [← q j hj]
  simp only [FT.get_set]
  repeat rw [if_neg (by omega)]

theorem mid4 {S0 S : MS} {G : List Em} {g : List Bool} {r mb gb k n0 : Nat} {b : Bool} {T : FT} (hr : IsR S r mb G) (hgr : gb ≠ r ∧ gb ≠ mb) (hb : S.m gb = some (.cells (g.map Value.bool) 0)) (hgl : g.length = 41) (hs : Seen G (g.set k true)) (hk : k ≤ 40) (hcnt : G.length ≤ 100)
    (hold : Old S0 S) (hr0 : S0.n ≤ r) (hm0 : S0.n ≤ mb) (hg0 : S0.n ≤ gb)
    (t3 : T.get 3 = .pointer (some ⟨r, 0, none⟩)) (t4 : T.get 4 = .pointer (some ⟨gb, 0, none⟩)) (t5 : T.get 5 = .int .i64 n0) (t7 : T.get 7 = .int .i64 k) (t8 : T.get 8 = .bool b) (hn : (b = true → G.length = n0 + 1) ∧ (b = false → G.length = n0)) :
    MWp Try.prog O 68 (.seq (.seq (.region 15 (ro 4 15) false) (.cond (.tmp 42) (.region 16 (ro 4 16) false) .skip)) (.seq (.region 17 (ro 4 17) false) (.seq (.region 18 (ro 4 18) false) (.seq (.block 2 (.loop (.seq (.seq (.region 19 (ro 4 19) false) (.cond (.tmp 54) .skip (.exit 2))) (.block 3 (.region 20 (ro 4 20) false))))) (.seq (.region 21 (ro 4 21) false) (.cond (.tmp 67) (.seq (.region 22 (ro 4 22) false) .ret) .skip)))))) T S
      (fun x T' S' => x = .normal ∧ Old S0 S' ∧ IsR S' r mb G ∧ S'.m gb = some (.cells ((g.set k true).map Value.bool) 0) ∧ T'.get 5 = .int .i64 G.length ∧ ∀ j, j = 0 ∨ j = 3 ∨ j = 4 ∨ j = 6 → T'.get j = T.get j) := by
  refine m_seq (m_seq (m_reg ?_))
  rw [reg4_15]
  have done : ∀ (T1 : FT), T1.get 5 = .int .i64 G.length → (∀ j, j = 0 ∨ j = 3 ∨ j = 4 ∨ j = 6 ∨ j = 7 → T1.get j = T.get j) → MWp Try.prog O 68 (.seq (.region 17 (ro 4 17) false) (.seq (.region 18 (ro 4 18) false) (.seq (.block 2 (.loop (.seq (.seq (.region 19 (ro 4 19) false) (.cond (.tmp 54) .skip (.exit 2))) (.block 3 (.region 20 (ro 4 20) false))))) (.seq (.region 21 (ro 4 21) false) (.cond (.tmp 67) (.seq (.region 22 (ro 4 22) false) .ret) .skip))))) T1 S
      (fun x T' S' => x = .normal ∧ Old S0 S' ∧ IsR S' r mb G ∧ S'.m gb = some (.cells ((g.set k true).map Value.bool) 0) ∧ T'.get 5 = .int .i64 G.length ∧ ∀ j, j = 0 ∨ j = 3 ∨ j = 4 ∨ j = 6 → T'.get j = T.get j) := by
    intro T1 q5 q
    refine MWp.mono (tail4 hr hgr hb hgl hs hk hcnt hold hr0 hm0 hg0 ((q 3 (by decide)).trans t3) ((q 4 (by decide)).trans t4) q5 ((q 7 (by decide)).trans t7)) ?_
    rintro _ T2 S2 ⟨rfl, h1, h2, h3, h4⟩
    refine ⟨rfl, h1, h2, h3, (h4 5 (by decide)).trans q5, fun j hj => ?_⟩
    rcases hj with rfl | rfl | rfl | rfl
    · rw [h4 0 (by decide), q 0 (by decide)]
    · rw [h4 3 (by decide), q 3 (by decide)]
    · rw [h4 4 (by decide), q 4 (by decide)]
    · rw [h4 6 (by decide), q 6 (by decide)]
  rw [t8]
  cases b with
  | true =>
    refine m_cond (t := true) (by simp [evalT, FT.get_set, FT.setL, faS_ptr, nilS_ptr, nilS_func, nilS_yield, pickS_bool, ldS_ptr, list_cells, list_ro, partS_none, lenSl_of, lenStr_of, cvInt_of, aminmax_max, aminmax_min, abin_add, abin_sub, abin_mul, abin_eql, abin_neq, abin_lss, abin_leq, abin_gtr, abin_geq, aunary_not, aextract]) (fun _ => m_reg ?_) (fun h => by cases h)
    rw [reg4_16]
    have hl := hn.1 rfl
    have hw : IntKind.i64.wrap ((n0 : Int) + 1) = ((G.length : Nat) : Int) := by rw [wrap_i64 (by omega) (by omega), hl]; rfl
    simp (decide := true) only [FT.get_set, FT.setL, faS_ptr, nilS_ptr, nilS_func, nilS_yield, pickS_bool, ldS_ptr, list_cells, list_ro, partS_none, lenSl_of, lenStr_of, cvInt_of, aminmax_max, aminmax_min, abin_add, abin_sub, abin_mul, abin_eql, abin_neq, abin_lss, abin_leq, abin_gtr, abin_geq, aunary_not, aextract, Option.some.injEq, Prod.mk.injEq, Value.bool.injEq, exists_eq_left', exists_and_left, and_assoc, decide_eq_true_eq, decide_eq_false_iff_not, if_true, if_false, Nat.zero_add, Nat.add_zero, Option.bind_some, true_and, and_true, forall_const, true_implies, Bool.not_eq_true, Bool.false_eq_true, false_implies, ite_self, Nat.mul_one, t5, hw]
    refine done _ (by simp [FT.get_set, FT.setL, faS_ptr, nilS_ptr, nilS_func, nilS_yield, pickS_bool, ldS_ptr, list_cells, list_ro, partS_none, lenSl_of, lenStr_of, cvInt_of, aminmax_max, aminmax_min, abin_add, abin_sub, abin_mul, abin_eql, abin_neq, abin_lss, abin_leq, abin_gtr, abin_geq, aunary_not, aextract]) fun j hj => ?_
    rcases hj with rfl | rfl | rfl | rfl | rfl <;> simp [FT.get_set, FT.setL, faS_ptr, nilS_ptr, nilS_func, nilS_yield, pickS_bool, ldS_ptr, list_cells, list_ro, partS_none, lenSl_of, lenStr_of, cvInt_of, aminmax_max, aminmax_min, abin_add, abin_sub, abin_mul, abin_eql, abin_neq, abin_lss, abin_leq, abin_gtr, abin_geq, aunary_not, aextract]
  | false =>
    refine m_cond (t := false) (by simp [evalT, FT.get_set, FT.setL, faS_ptr, nilS_ptr, nilS_func, nilS_yield, pickS_bool, ldS_ptr, list_cells, list_ro, partS_none, lenSl_of, lenStr_of, cvInt_of, aminmax_max, aminmax_min, abin_add, abin_sub, abin_mul, abin_eql, abin_neq, abin_lss, abin_leq, abin_gtr, abin_geq, aunary_not, aextract]) (fun h => by cases h) (fun _ => m_skip ?_)
    simp only
    refine done _ (by simp [FT.get_set, FT.setL, faS_ptr, nilS_ptr, nilS_func, nilS_yield, pickS_bool, ldS_ptr, list_cells, list_ro, partS_none, lenSl_of, lenStr_of, cvInt_of, aminmax_max, aminmax_min, abin_add, abin_sub, abin_mul, abin_eql, abin_neq, abin_lss, abin_leq, abin_gtr, abin_geq, aunary_not, aextract, t5, hn.2 rfl]) fun j hj => ?_
    rcases hj with rfl | rfl | rfl | rfl | rfl <;> simp [FT.get_set, FT.setL, faS_ptr, nilS_ptr, nilS_func, nilS_yield, pickS_bool, ldS_ptr, list_cells, list_ro, partS_none, lenSl_of, lenStr_of, cvInt_of, aminmax_max, aminmax_min, abin_add, abin_sub, abin_mul, abin_eql, abin_neq, abin_lss, abin_leq, abin_gtr, abin_geq, aunary_not, aextract]

theorem law4 {S : MS} {ds : List Nat} {dv : Value} (hb : By S dv ds) : CallM Try.prog O 4 [dv] S fun v _ => v = .bool true := by
  refine callM_wf fun wf => ?_
  refine callM_body (fnIs is4 body4 res4) (O_none (by decide)) (by simp) ?_
  have fin : ∀ (T' : FT) (S' : MS), T'.get 2 = .bool true → ((match AExit.ret with | .exit _ => False | _ => True) ∧ ∃ vs, resM Try.prog T' S' [.tmp 2] = some vs ∧ oneOrTuple vs = .bool true) := by
    intro T' S' h4
    simp [resM, h4, oneOrTuple]
  refine m_seq (m_reg ?_)
  rw [reg4_0]
  refine m_seq (m_seq (m_reg ?_))
  rw [reg4_1]
  refine callM_known (v := .bool true) O_known ?_
  simp (decide := true) only [FT.get_set, FT.setL, faS_ptr, nilS_ptr, nilS_func, nilS_yield, pickS_bool, ldS_ptr, list_cells, list_ro, partS_none, lenSl_of, lenStr_of, cvInt_of, aminmax_max, aminmax_min, abin_add, abin_sub, abin_mul, abin_eql, abin_neq, abin_lss, abin_leq, abin_gtr, abin_geq, aunary_not, aextract, Option.some.injEq, Prod.mk.injEq, Value.bool.injEq, exists_eq_left', exists_and_left, and_assoc, decide_eq_true_eq, decide_eq_false_iff_not, if_true, if_false, Nat.zero_add, Nat.add_zero, Option.bind_some, true_and, and_true, forall_const, true_implies, Bool.not_eq_true, Bool.false_eq_true, false_implies, ite_self, Nat.mul_one, Bool.not_true]
  refine m_cond (t := false) (by simp [evalT, FT.get_set, FT.setL, faS_ptr, nilS_ptr, nilS_func, nilS_yield, pickS_bool, ldS_ptr, list_cells, list_ro, partS_none, lenSl_of, lenStr_of, cvInt_of, aminmax_max, aminmax_min, abin_add, abin_sub, abin_mul, abin_eql, abin_neq, abin_lss, abin_leq, abin_gtr, abin_geq, aunary_not, aextract]) (fun h => by cases h) (fun _ => m_skip ?_)
  simp only
  refine m_seq (m_seq (m_reg ?_))
  rw [reg4_3]
  by_cases h1 : (ds.length : Int) > 80
  · have e1 : decide ((ds.length : Int) > 80) = true := decide_eq_true h1
    simp (decide := true) only [FT.get_set, FT.setL, faS_ptr, nilS_ptr, nilS_func, nilS_yield, pickS_bool, ldS_ptr, list_cells, list_ro, partS_none, lenSl_of, lenStr_of, cvInt_of, aminmax_max, aminmax_min, abin_add, abin_sub, abin_mul, abin_eql, abin_neq, abin_lss, abin_leq, abin_gtr, abin_geq, aunary_not, aextract, Option.some.injEq, Prod.mk.injEq, Value.bool.injEq, exists_eq_left', exists_and_left, and_assoc, decide_eq_true_eq, decide_eq_false_iff_not, if_true, if_false, Nat.zero_add, Nat.add_zero, Option.bind_some, true_and, and_true, forall_const, true_implies, Bool.not_eq_true, Bool.false_eq_true, false_implies, ite_self, Nat.mul_one, hb.len, e1]
    refine m_cond (t := true) (by simp [evalT, FT.get_set, FT.setL, faS_ptr, nilS_ptr, nilS_func, nilS_yield, pickS_bool, ldS_ptr, list_cells, list_ro, partS_none, lenSl_of, lenStr_of, cvInt_of, aminmax_max, aminmax_min, abin_add, abin_sub, abin_mul, abin_eql, abin_neq, abin_lss, abin_leq, abin_gtr, abin_geq, aunary_not, aextract]) (fun _ => ?_) (fun h => by cases h)
    refine m_seq (m_reg ?_)
    rw [reg4_4]
    exact m_ret (fin _ _ (by simp [FT.get_set, FT.setL, faS_ptr, nilS_ptr, nilS_func, nilS_yield, pickS_bool, ldS_ptr, list_cells, list_ro, partS_none, lenSl_of, lenStr_of, cvInt_of, aminmax_max, aminmax_min, abin_add, abin_sub, abin_mul, abin_eql, abin_neq, abin_lss, abin_leq, abin_gtr, abin_geq, aunary_not, aextract]))
  have e1 : decide ((ds.length : Int) > 80) = false := decide_eq_false h1
  simp (decide := true) only [FT.get_set, FT.setL, faS_ptr, nilS_ptr, nilS_func, nilS_yield, pickS_bool, ldS_ptr, list_cells, list_ro, partS_none, lenSl_of, lenStr_of, cvInt_of, aminmax_max, aminmax_min, abin_add, abin_sub, abin_mul, abin_eql, abin_neq, abin_lss, abin_leq, abin_gtr, abin_geq, aunary_not, aextract, Option.some.injEq, Prod.mk.injEq, Value.bool.injEq, exists_eq_left', exists_and_left, and_assoc, decide_eq_true_eq, decide_eq_false_iff_not, if_true, if_false, Nat.zero_add, Nat.add_zero, Option.bind_some, true_and, and_true, forall_const, true_implies, Bool.not_eq_true, Bool.false_eq_true, false_implies, ite_self, Nat.mul_one, hb.len, e1]
  refine m_cond (t := false) (by simp [evalT, FT.get_set, FT.setL, faS_ptr, nilS_ptr, nilS_func, nilS_yield, pickS_bool, ldS_ptr, list_cells, list_ro, partS_none, lenSl_of, lenStr_of, cvInt_of, aminmax_max, aminmax_min, abin_add, abin_sub, abin_mul, abin_eql, abin_neq, abin_lss, abin_leq, abin_gtr, abin_geq, aunary_not, aextract]) (fun h => by cases h) (fun _ => m_skip ?_)
  simp only
  refine m_seq (m_reg ?_)
  rw [reg4_5]
  refine new7 fun r mb S1 f1 hr0 hm0 hrn hmn hr => ?_
  refine m_seq (m_reg ?_)
  rw [reg4_6]
  have f2 := old_fresh S1 (List.replicate 41 (.bool false)) 0
  have hg := fresh_at S1 (List.replicate 41 (.bool false)) 0
  have wf1 : ∀ y, y < S1.n → (S1.fresh (List.replicate 41 (.bool false)) 0).m y = S1.m y := f2.2
  have hg' : (S1.fresh (List.replicate 41 (.bool false)) 0).m S1.n = some (.cells ((List.replicate 41 false).map Value.bool) 0) := by rw [hg]; rfl
  refine m_seq (m_reg ?_)
  rw [reg4_7]
  refine m_seq (m_seq (m_reg ?_))
  rw [reg4_8]
  refine m_block (m_loop (fun m T S' => LI4 S ds dv r mb S1.n m T S') ds.length ⟨0, [], List.replicate 41 false, by omega, ⟨f1.trans f2, hr0, hm0, f1.1, ⟨by omega, by omega⟩, hr.keep (wf1 _ hrn) (wf1 _ hmn), hg', ⟨by simp, fun j h1 h2 => ?_, fun p hp => by cases hp⟩, by simp, by simp [FT.get_set, FT.setL, faS_ptr, nilS_ptr, nilS_func, nilS_yield, pickS_bool, ldS_ptr, list_cells, list_ro, partS_none, lenSl_of, lenStr_of, cvInt_of, aminmax_max, aminmax_min, abin_add, abin_sub, abin_mul, abin_eql, abin_neq, abin_lss, abin_leq, abin_gtr, abin_geq, aunary_not, aextract], by simp [FT.get_set, FT.setL, faS_ptr, nilS_ptr, nilS_func, nilS_yield, pickS_bool, ldS_ptr, list_cells, list_ro, partS_none, lenSl_of, lenStr_of, cvInt_of, aminmax_max, aminmax_min, abin_add, abin_sub, abin_mul, abin_eql, abin_neq, abin_lss, abin_leq, abin_gtr, abin_geq, aunary_not, aextract], by simp [FT.get_set, FT.setL, faS_ptr, nilS_ptr, nilS_func, nilS_yield, pickS_bool, ldS_ptr, list_cells, list_ro, partS_none, lenSl_of, lenStr_of, cvInt_of, aminmax_max, aminmax_min, abin_add, abin_sub, abin_mul, abin_eql, abin_neq, abin_lss, abin_leq, abin_gtr, abin_geq, aunary_not, aextract, ptrTo], by simp [FT.get_set, FT.setL, faS_ptr, nilS_ptr, nilS_func, nilS_yield, pickS_bool, ldS_ptr, list_cells, list_ro, partS_none, lenSl_of, lenStr_of, cvInt_of, aminmax_max, aminmax_min, abin_add, abin_sub, abin_mul, abin_eql, abin_neq, abin_lss, abin_leq, abin_gtr, abin_geq, aunary_not, aextract]⟩, by simp [FT.get_set, FT.setL, faS_ptr, nilS_ptr, nilS_func, nilS_yield, pickS_bool, ldS_ptr, list_cells, list_ro, partS_none, lenSl_of, lenStr_of, cvInt_of, aminmax_max, aminmax_min, abin_add, abin_sub, abin_mul, abin_eql, abin_neq, abin_lss, abin_leq, abin_gtr, abin_geq, aunary_not, aextract]⟩ ?_)
  · rw [List.getElem?_replicate, if_pos (by omega)]
    constructor
    · intro h; cases h
    · rintro ⟨t, ht⟩; cases ht
  clear hg hg'
  generalize S1.n = gb at *
  clear f2 wf1 hr hrn hmn
  rintro m T S2 ⟨i, G, g, hm, hc, t6⟩
  refine m_wf fun wf2 => m_seq (m_seq (m_reg ?_))
  rw [reg4_9]
  simp (decide := true) only [FT.get_set, FT.setL, faS_ptr, nilS_ptr, nilS_func, nilS_yield, pickS_bool, ldS_ptr, list_cells, list_ro, partS_none, lenSl_of, lenStr_of, cvInt_of, aminmax_max, aminmax_min, abin_add, abin_sub, abin_mul, abin_eql, abin_neq, abin_lss, abin_leq, abin_gtr, abin_geq, aunary_not, aextract, Option.some.injEq, Prod.mk.injEq, Value.bool.injEq, exists_eq_left', exists_and_left, and_assoc, decide_eq_true_eq, decide_eq_false_iff_not, if_true, if_false, Nat.zero_add, Nat.add_zero, Option.bind_some, true_and, and_true, forall_const, true_implies, Bool.not_eq_true, Bool.false_eq_true, false_implies, ite_self, Nat.mul_one, t6, hc.t0, hb.len]
  refine m_cond (t := decide ((i : Int) < ds.length)) (by simp [evalT, FT.get_set, FT.setL, faS_ptr, nilS_ptr, nilS_func, nilS_yield, pickS_bool, ldS_ptr, list_cells, list_ro, partS_none, lenSl_of, lenStr_of, cvInt_of, aminmax_max, aminmax_min, abin_add, abin_sub, abin_mul, abin_eql, abin_neq, abin_lss, abin_leq, abin_gtr, abin_geq, aunary_not, aextract]) (fun hlt => m_skip ?_) (fun hlt => m_exit ?_)
  · have hlt : i < ds.length := by have := of_decide_eq_true hlt; omega
    simp only
    obtain ⟨d, hd⟩ : ∃ d, ds[i]? = some d := ⟨_, List.getElem?_eq_getElem hlt⟩
    have hd256 := hb.small d (List.mem_of_getElem? hd)
    obtain ⟨p, hp1, hp2⟩ := (hb.keep wf hc.old.2).at hd
    have hcnt := hc.cnt
    have hmod : ((d : Int)).tmod 41 = ((d % 41 : Nat) : Int) := by rw [Int.tmod_eq_emod_of_nonneg (by omega)]; omega
    have hk : d % 41 ≤ 40 := by omega
    generalize d % 41 = k at *
    have hcv : IntKind.i64.wrap (k : Int) = k := wrap_i64 (by omega) (by omega)
    refine m_seq (m_block (m_seq (m_reg ?_)))
    rw [reg4_11]
    simp (decide := true) only [FT.get_set, FT.setL, faS_ptr, nilS_ptr, nilS_func, nilS_yield, pickS_bool, ldS_ptr, list_cells, list_ro, partS_none, lenSl_of, lenStr_of, cvInt_of, aminmax_max, aminmax_min, abin_add, abin_sub, abin_mul, abin_eql, abin_neq, abin_lss, abin_leq, abin_gtr, abin_geq, aunary_not, aextract, Option.some.injEq, Prod.mk.injEq, Value.bool.injEq, exists_eq_left', exists_and_left, and_assoc, decide_eq_true_eq, decide_eq_false_iff_not, if_true, if_false, Nat.zero_add, Nat.add_zero, Option.bind_some, true_and, and_true, forall_const, true_implies, Bool.not_eq_true, Bool.false_eq_true, false_implies, ite_self, Nat.mul_one, hc.t0, t6, hp1, hp2, abin_rem, hmod, hcv]
    have bd : bdS (fun i => [(0, 1), (1, 1)][i]?) [.int .i64 0, .string ⟨⟨[]⟩⟩] [(0, .int .i64 (k : Int)), (1, .string ⟨⟨[120]⟩⟩)] = some (.agg #[.int .i64 k, .string ⟨⟨[120]⟩⟩]) := rfl
    refine m_seq (m_reg ?_)
    rw [reg4_12]
    simp (decide := true) only [FT.get_set, FT.setL, faS_ptr, nilS_ptr, nilS_func, nilS_yield, pickS_bool, ldS_ptr, list_cells, list_ro, partS_none, lenSl_of, lenStr_of, cvInt_of, aminmax_max, aminmax_min, abin_add, abin_sub, abin_mul, abin_eql, abin_neq, abin_lss, abin_leq, abin_gtr, abin_geq, aunary_not, aextract, Option.some.injEq, Prod.mk.injEq, Value.bool.injEq, exists_eq_left', exists_and_left, and_assoc, decide_eq_true_eq, decide_eq_false_iff_not, if_true, if_false, Nat.zero_add, Nat.add_zero, Option.bind_some, true_and, and_true, forall_const, true_implies, Bool.not_eq_true, Bool.false_eq_true, false_implies, ite_self, Nat.mul_one, hc.t3, bd]
    have hwi : IntKind.i64.wrap ((i : Int) + 1) = ((i + 1 : Nat) : Int) := by rw [wrap_i64 (by omega) (by omega)]; rfl
    obtain ⟨gk, hgk, hgi⟩ := hc.seen.at hk
    have close : ∀ (T1 : FT) (S1 : MS) (Q : AExit → FT → MS → Prop), T1.get 6 = .int .i64 i → (∀ T2, T2.get 6 = .int .i64 ((i + 1 : Nat) : Int) → (∀ j, j = 0 ∨ j = 3 ∨ j = 4 ∨ j = 5 → T2.get j = T1.get j) → Q .normal T2 S1) → MWp Try.prog O 68 (.region 10 (ro 4 10) false) T1 S1 Q := by
      intro T1 S1 Q q6 hQ
      refine m_reg ?_
      rw [reg4_10]
      simp (decide := true) only [FT.get_set, FT.setL, faS_ptr, nilS_ptr, nilS_func, nilS_yield, pickS_bool, ldS_ptr, list_cells, list_ro, partS_none, lenSl_of, lenStr_of, cvInt_of, aminmax_max, aminmax_min, abin_add, abin_sub, abin_mul, abin_eql, abin_neq, abin_lss, abin_leq, abin_gtr, abin_geq, aunary_not, aextract, Option.some.injEq, Prod.mk.injEq, Value.bool.injEq, exists_eq_left', exists_and_left, and_assoc, decide_eq_true_eq, decide_eq_false_iff_not, if_true, if_false, Nat.zero_add, Nat.add_zero, Option.bind_some, true_and, and_true, forall_const, true_implies, Bool.not_eq_true, Bool.false_eq_true, false_implies, ite_self, Nat.mul_one, q6, hwi]
      refine hQ _ (by simp [FT.get_set, FT.setL, faS_ptr, nilS_ptr, nilS_func, nilS_yield, pickS_bool, ldS_ptr, list_cells, list_ro, partS_none, lenSl_of, lenStr_of, cvInt_of, aminmax_max, aminmax_min, abin_add, abin_sub, abin_mul, abin_eql, abin_neq, abin_lss, abin_leq, abin_gtr, abin_geq, aunary_not, aextract]) fun j hj => ?_
      rcases hj with rfl | rfl | rfl | rfl <;> simp [FT.get_set, FT.setL, faS_ptr, nilS_ptr, nilS_func, nilS_yield, pickS_bool, ldS_ptr, list_cells, list_ro, partS_none, lenSl_of, lenStr_of, cvInt_of, aminmax_max, aminmax_min, abin_add, abin_sub, abin_mul, abin_eql, abin_neq, abin_lss, abin_leq, abin_gtr, abin_geq, aunary_not, aextract]
    have seenNo : (has G k ∨ (k : Int) < 1) → Seen G (g.set k true) := fun h => ⟨by rw [List.length_set]; exact hc.seen.len, fun j h1 h2 => by
      rw [List.getElem?_set]
      by_cases e : k = j
      · subst e
        rw [if_pos rfl, if_pos (by rw [hc.seen.len]; omega)]
        rcases h with h | h
        · simp [h]
        · omega
      · rw [if_neg e]; exact hc.seen.iff j h1 h2, hc.seen.top⟩
    have seenYes : ∀ t, 1 ≤ k → Seen (G ++ [((k : Int), t)]) (g.set k true) := fun t h => ⟨by rw [List.length_set]; exact hc.seen.len, fun j h1 h2 => by
      rw [List.getElem?_set]
      by_cases e : k = j
      · subst e
        rw [if_pos rfl, if_pos (by rw [hc.seen.len]; omega)]
        simp only [true_iff]
        exact ⟨t, by simp⟩
      · rw [if_neg e, hc.seen.iff j h1 h2]
        constructor
        · rintro ⟨t', h'⟩; exact ⟨t', List.mem_append_left _ h'⟩
        · rintro ⟨t', h'⟩
          rcases List.mem_append.1 h' with h' | h'
          · exact ⟨t', h'⟩
          · simp at h'; omega, fun p hp => by
      rcases List.mem_append.1 hp with hp | hp
      · exact hc.seen.top p hp
      · simp at hp; subst hp; simp only; omega⟩
    refine take10 hc.rcv (by omega) (fun hno S3 f3 h3 => ?_) (fun hyn hy1 S3 hn3 hk3 h3 => ?_)
    · -- it was there, or isn't above 0
      have hb3 : S3.m gb = some (.cells (g.map Value.bool) 0) := (f3.2 gb (wf2 _ _ hc.book)).trans hc.book
      have ho3 : Old S S3 := hc.old.trans f3
      have fin2 : ∀ T1 : FT, T1.get 5 = T.get 5 → T1.get 7 = .int .i64 k → T1.get 8 = .bool false → (∀ j, j = 0 ∨ j = 3 ∨ j = 4 ∨ j = 6 → T1.get j = T.get j) → 
          MWp Try.prog O 68 (.seq (.seq (.region 15 (ro 4 15) false) (.cond (.tmp 42) (.region 16 (ro 4 16) false) .skip)) (.seq (.region 17 (ro 4 17) false) (.seq (.region 18 (ro 4 18) false) (.seq (.block 2 (.loop (.seq (.seq (.region 19 (ro 4 19) false) (.cond (.tmp 54) .skip (.exit 2))) (.block 3 (.region 20 (ro 4 20) false))))) (.seq (.region 21 (ro 4 21) false) (.cond (.tmp 67) (.seq (.region 22 (ro 4 22) false) .ret) .skip)))))) T1 S3
            (fun x T2 S2 => x = .normal ∧ MWp Try.prog O 68 (.region 10 (ro 4 10) false) T2 S2 fun x T3 S3 => x = .normal ∧ ∃ k', k' < m ∧ LI4 S ds dv r mb gb k' T3 S3) := by
        intro T1 q5 q7 q8 q
        refine MWp.mono (mid4 (S0 := S) h3 hc.gr hb3 hc.seen.len (seenNo hno) hk (by omega) ho3 hc.r0 hc.m0 hc.g0 ((q 3 (by decide)).trans hc.t3) ((q 4 (by decide)).trans hc.t4) (q5.trans hc.t5) q7 q8 ⟨fun h => (by cases h), fun _ => rfl⟩) ?_
        rintro _ T2 S4 ⟨rfl, g1, g2, g3, g5, g⟩
        refine ⟨rfl, close T2 S4 _ ((g 6 (by decide)).trans ((q 6 (by decide)).trans t6)) fun T5 g6 hg => ⟨rfl, m - 1, by omega, i + 1, G, _, by omega, ⟨g1, hc.r0, hc.m0, hc.g0, hc.gr, g2, g3, seenNo hno, by omega, ?_, ?_, ?_, ?_⟩, g6⟩⟩
        · rw [hg 0 (by decide), g 0 (by decide), q 0 (by decide)]; exact hc.t0
        · rw [hg 3 (by decide), g 3 (by decide), q 3 (by decide)]; exact hc.t3
        · rw [hg 4 (by decide), g 4 (by decide), q 4 (by decide)]; exact hc.t4
        · rw [hg 5 (by decide)]; exact g5
      refine m_seq (m_seq (m_reg ?_))
      rw [reg4_13]
      by_cases hk0 : (k : Int) > 0
      · have e2 : decide ((k : Int) > 0) = true := decide_eq_true hk0
        have hgt : gk = true := (hgi (by omega)).2 (hno.resolve_right (by omega))
        subst hgt
        simp (decide := true) only [FT.get_set, FT.setL, faS_ptr, nilS_ptr, nilS_func, nilS_yield, pickS_bool, ldS_ptr, list_cells, list_ro, partS_none, lenSl_of, lenStr_of, cvInt_of, aminmax_max, aminmax_min, abin_add, abin_sub, abin_mul, abin_eql, abin_neq, abin_lss, abin_leq, abin_gtr, abin_geq, aunary_not, aextract, Option.some.injEq, Prod.mk.injEq, Value.bool.injEq, exists_eq_left', exists_and_left, and_assoc, decide_eq_true_eq, decide_eq_false_iff_not, if_true, if_false, Nat.zero_add, Nat.add_zero, Option.bind_some, true_and, and_true, forall_const, true_implies, Bool.not_eq_true, Bool.false_eq_true, false_implies, ite_self, Nat.mul_one, hc.t4, e2, ia41 gb k (by omega), list_of hb3, cells_at hgk, Bool.not_true, abin_bool_neq _ _ _ _ _ _ Try.underlying4]
        refine m_cond (t := false) (by simp [evalT, FT.get_set, FT.setL, faS_ptr, nilS_ptr, nilS_func, nilS_yield, pickS_bool, ldS_ptr, list_cells, list_ro, partS_none, lenSl_of, lenStr_of, cvInt_of, aminmax_max, aminmax_min, abin_add, abin_sub, abin_mul, abin_eql, abin_neq, abin_lss, abin_leq, abin_gtr, abin_geq, aunary_not, aextract]) (fun h => by cases h) (fun _ => m_skip ?_)
        simp only
        refine MWp.mono (fin2 _ (by simp [FT.get_set, FT.setL, faS_ptr, nilS_ptr, nilS_func, nilS_yield, pickS_bool, ldS_ptr, list_cells, list_ro, partS_none, lenSl_of, lenStr_of, cvInt_of, aminmax_max, aminmax_min, abin_add, abin_sub, abin_mul, abin_eql, abin_neq, abin_lss, abin_leq, abin_gtr, abin_geq, aunary_not, aextract]) (by simp [FT.get_set, FT.setL, faS_ptr, nilS_ptr, nilS_func, nilS_yield, pickS_bool, ldS_ptr, list_cells, list_ro, partS_none, lenSl_of, lenStr_of, cvInt_of, aminmax_max, aminmax_min, abin_add, abin_sub, abin_mul, abin_eql, abin_neq, abin_lss, abin_leq, abin_gtr, abin_geq, aunary_not, aextract]) (by simp [FT.get_set, FT.setL, faS_ptr, nilS_ptr, nilS_func, nilS_yield, pickS_bool, ldS_ptr, list_cells, list_ro, partS_none, lenSl_of, lenStr_of, cvInt_of, aminmax_max, aminmax_min, abin_add, abin_sub, abin_mul, abin_eql, abin_neq, abin_lss, abin_leq, abin_gtr, abin_geq, aunary_not, aextract]) (fun j hj => by rcases hj with rfl | rfl | rfl | rfl <;> simp [FT.get_set, FT.setL, faS_ptr, nilS_ptr, nilS_func, nilS_yield, pickS_bool, ldS_ptr, list_cells, list_ro, partS_none, lenSl_of, lenStr_of, cvInt_of, aminmax_max, aminmax_min, abin_add, abin_sub, abin_mul, abin_eql, abin_neq, abin_lss, abin_leq, abin_gtr, abin_geq, aunary_not, aextract])) ?_
        rintro _ T2 S4 ⟨rfl, h⟩
        simp only
        exact MWp.mono h (by rintro _ T3 S5 ⟨rfl, hk⟩; exact hk)
      · have e2 : decide ((k : Int) > 0) = false := decide_eq_false hk0
        simp (decide := true) only [FT.get_set, FT.setL, faS_ptr, nilS_ptr, nilS_func, nilS_yield, pickS_bool, ldS_ptr, list_cells, list_ro, partS_none, lenSl_of, lenStr_of, cvInt_of, aminmax_max, aminmax_min, abin_add, abin_sub, abin_mul, abin_eql, abin_neq, abin_lss, abin_leq, abin_gtr, abin_geq, aunary_not, aextract, Option.some.injEq, Prod.mk.injEq, Value.bool.injEq, exists_eq_left', exists_and_left, and_assoc, decide_eq_true_eq, decide_eq_false_iff_not, if_true, if_false, Nat.zero_add, Nat.add_zero, Option.bind_some, true_and, and_true, forall_const, true_implies, Bool.not_eq_true, Bool.false_eq_true, false_implies, ite_self, Nat.mul_one, hc.t4, e2, abin_bool_neq _ _ _ _ _ _ Try.underlying4]
        refine m_cond (t := false) (by simp [evalT, FT.get_set, FT.setL, faS_ptr, nilS_ptr, nilS_func, nilS_yield, pickS_bool, ldS_ptr, list_cells, list_ro, partS_none, lenSl_of, lenStr_of, cvInt_of, aminmax_max, aminmax_min, abin_add, abin_sub, abin_mul, abin_eql, abin_neq, abin_lss, abin_leq, abin_gtr, abin_geq, aunary_not, aextract]) (fun h => by cases h) (fun _ => m_skip ?_)
        simp only
        refine MWp.mono (fin2 _ (by simp [FT.get_set, FT.setL, faS_ptr, nilS_ptr, nilS_func, nilS_yield, pickS_bool, ldS_ptr, list_cells, list_ro, partS_none, lenSl_of, lenStr_of, cvInt_of, aminmax_max, aminmax_min, abin_add, abin_sub, abin_mul, abin_eql, abin_neq, abin_lss, abin_leq, abin_gtr, abin_geq, aunary_not, aextract]) (by simp [FT.get_set, FT.setL, faS_ptr, nilS_ptr, nilS_func, nilS_yield, pickS_bool, ldS_ptr, list_cells, list_ro, partS_none, lenSl_of, lenStr_of, cvInt_of, aminmax_max, aminmax_min, abin_add, abin_sub, abin_mul, abin_eql, abin_neq, abin_lss, abin_leq, abin_gtr, abin_geq, aunary_not, aextract]) (by simp [FT.get_set, FT.setL, faS_ptr, nilS_ptr, nilS_func, nilS_yield, pickS_bool, ldS_ptr, list_cells, list_ro, partS_none, lenSl_of, lenStr_of, cvInt_of, aminmax_max, aminmax_min, abin_add, abin_sub, abin_mul, abin_eql, abin_neq, abin_lss, abin_leq, abin_gtr, abin_geq, aunary_not, aextract]) (fun j hj => by rcases hj with rfl | rfl | rfl | rfl <;> simp [FT.get_set, FT.setL, faS_ptr, nilS_ptr, nilS_func, nilS_yield, pickS_bool, ldS_ptr, list_cells, list_ro, partS_none, lenSl_of, lenStr_of, cvInt_of, aminmax_max, aminmax_min, abin_add, abin_sub, abin_mul, abin_eql, abin_neq, abin_lss, abin_leq, abin_gtr, abin_geq, aunary_not, aextract])) ?_
        rintro _ T2 S4 ⟨rfl, h⟩
        simp only
        exact MWp.mono h (by rintro _ T3 S5 ⟨rfl, hk⟩; exact hk)
    · have ho3 : Old S S3 := ⟨by have := hc.old.1; omega, fun y hy => by rw [hk3 y (by have := hc.old.1; omega) (by have := hc.m0; omega)]; exact hc.old.2 y hy⟩
      have hb3 : S3.m gb = some (.cells (g.map Value.bool) 0) := (hk3 gb (wf2 _ _ hc.book) hc.gr.2).trans hc.book
      have hgf : gk = false := by
        cases gk with
        | true => exact absurd ((hgi (by omega)).1 rfl) hyn
        | false => rfl
      subst hgf
      have hl : (G ++ [((k : Int), (⟨⟨[120]⟩⟩ : ByteArray))]).length = G.length + 1 := by simp
      have fin3 : ∀ T1 : FT, T1.get 5 = T.get 5 → T1.get 7 = .int .i64 k → T1.get 8 = .bool true → (∀ j, j = 0 ∨ j = 3 ∨ j = 4 ∨ j = 6 → T1.get j = T.get j) → 
          MWp Try.prog O 68 (.seq (.seq (.region 15 (ro 4 15) false) (.cond (.tmp 42) (.region 16 (ro 4 16) false) .skip)) (.seq (.region 17 (ro 4 17) false) (.seq (.region 18 (ro 4 18) false) (.seq (.block 2 (.loop (.seq (.seq (.region 19 (ro 4 19) false) (.cond (.tmp 54) .skip (.exit 2))) (.block 3 (.region 20 (ro 4 20) false))))) (.seq (.region 21 (ro 4 21) false) (.cond (.tmp 67) (.seq (.region 22 (ro 4 22) false) .ret) .skip)))))) T1 S3
            (fun x T2 S2 => x = .normal ∧ MWp Try.prog O 68 (.region 10 (ro 4 10) false) T2 S2 fun x T3 S3 => x = .normal ∧ ∃ k', k' < m ∧ LI4 S ds dv r mb gb k' T3 S3) := by
        intro T1 q5 q7 q8 q
        refine MWp.mono (mid4 (S0 := S) h3 hc.gr hb3 hc.seen.len (seenYes _ (by omega)) hk (by omega) ho3 hc.r0 hc.m0 hc.g0 ((q 3 (by decide)).trans hc.t3) ((q 4 (by decide)).trans hc.t4) (q5.trans hc.t5) q7 q8 ⟨fun _ => hl, fun h => (by cases h)⟩) ?_
        rintro _ T2 S4 ⟨rfl, g1, g2, g3, g5, g⟩
        refine ⟨rfl, close T2 S4 _ ((g 6 (by decide)).trans ((q 6 (by decide)).trans t6)) fun T5 g6 hg => ⟨rfl, m - 1, by omega, i + 1, _, _, by omega, ⟨g1, hc.r0, hc.m0, hc.g0, hc.gr, g2, g3, seenYes _ (by omega), by omega, ?_, ?_, ?_, ?_⟩, g6⟩⟩
        · rw [hg 0 (by decide), g 0 (by decide), q 0 (by decide)]; exact hc.t0
        · rw [hg 3 (by decide), g 3 (by decide), q 3 (by decide)]; exact hc.t3
        · rw [hg 4 (by decide), g 4 (by decide), q 4 (by decide)]; exact hc.t4
        · rw [hg 5 (by decide)]; exact g5
      refine m_seq (m_seq (m_reg ?_))
      rw [reg4_13]
      have e2 : decide ((k : Int) > 0) = true := decide_eq_true (by omega)
      simp (decide := true) only [FT.get_set, FT.setL, faS_ptr, nilS_ptr, nilS_func, nilS_yield, pickS_bool, ldS_ptr, list_cells, list_ro, partS_none, lenSl_of, lenStr_of, cvInt_of, aminmax_max, aminmax_min, abin_add, abin_sub, abin_mul, abin_eql, abin_neq, abin_lss, abin_leq, abin_gtr, abin_geq, aunary_not, aextract, Option.some.injEq, Prod.mk.injEq, Value.bool.injEq, exists_eq_left', exists_and_left, and_assoc, decide_eq_true_eq, decide_eq_false_iff_not, if_true, if_false, Nat.zero_add, Nat.add_zero, Option.bind_some, true_and, and_true, forall_const, true_implies, Bool.not_eq_true, Bool.false_eq_true, false_implies, ite_self, Nat.mul_one, hc.t4, e2, ia41 gb k (by omega), list_of hb3, cells_at hgk, Bool.not_false, abin_bool_neq _ _ _ _ _ _ Try.underlying4]
      refine m_cond (t := false) (by simp [evalT, FT.get_set, FT.setL, faS_ptr, nilS_ptr, nilS_func, nilS_yield, pickS_bool, ldS_ptr, list_cells, list_ro, partS_none, lenSl_of, lenStr_of, cvInt_of, aminmax_max, aminmax_min, abin_add, abin_sub, abin_mul, abin_eql, abin_neq, abin_lss, abin_leq, abin_gtr, abin_geq, aunary_not, aextract]) (fun h => by cases h) (fun _ => m_skip ?_)
      simp only
      refine MWp.mono (fin3 _ (by simp [FT.get_set, FT.setL, faS_ptr, nilS_ptr, nilS_func, nilS_yield, pickS_bool, ldS_ptr, list_cells, list_ro, partS_none, lenSl_of, lenStr_of, cvInt_of, aminmax_max, aminmax_min, abin_add, abin_sub, abin_mul, abin_eql, abin_neq, abin_lss, abin_leq, abin_gtr, abin_geq, aunary_not, aextract]) (by simp [FT.get_set, FT.setL, faS_ptr, nilS_ptr, nilS_func, nilS_yield, pickS_bool, ldS_ptr, list_cells, list_ro, partS_none, lenSl_of, lenStr_of, cvInt_of, aminmax_max, aminmax_min, abin_add, abin_sub, abin_mul, abin_eql, abin_neq, abin_lss, abin_leq, abin_gtr, abin_geq, aunary_not, aextract]) (by simp [FT.get_set, FT.setL, faS_ptr, nilS_ptr, nilS_func, nilS_yield, pickS_bool, ldS_ptr, list_cells, list_ro, partS_none, lenSl_of, lenStr_of, cvInt_of, aminmax_max, aminmax_min, abin_add, abin_sub, abin_mul, abin_eql, abin_neq, abin_lss, abin_leq, abin_gtr, abin_geq, aunary_not, aextract]) (fun j hj => by rcases hj with rfl | rfl | rfl | rfl <;> simp [FT.get_set, FT.setL, faS_ptr, nilS_ptr, nilS_func, nilS_yield, pickS_bool, ldS_ptr, list_cells, list_ro, partS_none, lenSl_of, lenStr_of, cvInt_of, aminmax_max, aminmax_min, abin_add, abin_sub, abin_mul, abin_eql, abin_neq, abin_lss, abin_leq, abin_gtr, abin_geq, aunary_not, aextract])) ?_
      rintro _ T2 S4 ⟨rfl, h⟩
      simp only
      exact MWp.mono h (by rintro _ T3 S5 ⟨rfl, hk⟩; exact hk)
  · simp only [if_true]
    refine m_seq (m_reg ?_)
    rw [reg4_23]
    exact m_ret (fin _ _ (by simp [FT.get_set, FT.setL, faS_ptr, nilS_ptr, nilS_func, nilS_yield, pickS_bool, ldS_ptr, list_cells, list_ro, partS_none, lenSl_of, lenStr_of, cvInt_of, aminmax_max, aminmax_min, abin_add, abin_sub, abin_mul, abin_eql, abin_neq, abin_lss, abin_leq, abin_gtr, abin_geq, aunary_not, aextract]))
end Go.Proofs.Ytikdcdccpbnaeaa

