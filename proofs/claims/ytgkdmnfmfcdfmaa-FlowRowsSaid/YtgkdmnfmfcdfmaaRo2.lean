/-
  The walk through the code of blocks and of what is reached, part R2: what its functions do to memory. Nothing is asked.
-/
import Derived.Test.YtgkdmnfmfcdfmaaRo1
set_option linter.all false
namespace Go.Proofs.Ytgkdmnfmfcdfmaa
open Go Go.Ag
set_option linter.unusedVariables false
set_option maxRecDepth 100000

theorem bd_o35 : bdS (fun i => [(0, 1), (1, 1), (2, 1), (3, 1), (4, 1)][i]?) [.int .i64 0, .int .i64 0, .int .i64 0, .int .i64 0, .int .i64 0] [(0, .int .i64 35)] = some (.agg (opL o35).toArray) := by
  simp [bdS, fillL, spliceL, cells_int, opL, o35]
theorem bd_next (b : Nat) (t : Int) : bdS (fun i => [(0, 1), (1, 1), (2, 1), (3, 1), (4, 1)][i]?) [.slice none 0 0, .int .i64 0, .int .i64 0, .int .i64 0, .int .i64 0] [(0, .slice (some ⟨b, 0, none⟩) 1 1), (1, .int .i64 38), (3, .int .i64 t)] = some (.agg (rbL ⟨b, 38, 0, t⟩).toArray) := rfl
theorem bd_last (b : Nat) : bdS (fun i => [(0, 1), (1, 1), (2, 1), (3, 1), (4, 1)][i]?) [.slice none 0 0, .int .i64 0, .int .i64 0, .int .i64 0, .int .i64 0] [(0, .slice (some ⟨b, 0, none⟩) 1 1), (1, .int .i64 40), (2, .int .i64 (-1))] = some (.agg (rbL ⟨b, 40, -1, 0⟩).toArray) := rfl
theorem bd_back (b : Nat) : bdS (fun i => [(0, 1), (1, 1), (2, 1), (3, 1), (4, 1)][i]?) [.slice none 0 0, .int .i64 0, .int .i64 0, .int .i64 0, .int .i64 0] [(0, .slice (some ⟨b, 0, none⟩) 1 1), (1, .int .i64 38)] = some (.agg (rbL ⟨b, 38, 0, 0⟩).toArray) := rfl
theorem bs_rb (S : MS) (r : RB) : bsS S 1 5 [.slice none 0 0, .int .i64 0, .int .i64 0, .int .i64 0, .int .i64 0] [(0, .agg (rbL r).toArray)] = some (.slice (some ⟨S.n, 0, none⟩) 1 1, S.fresh (rbL r) 5) := bsS_one S 5 _ (.agg (rbL r).toArray) rfl rfl
theorem partS_rb (r : RB) : partS (some 5) (rbL r) 0 = some (.agg (rbL r).toArray) := rfl

def RI5 (S0 : MS) (n : Nat) (back : Int) (m : Nat) (T : FT) (S : MS) : Prop :=
  ∃ (k : Nat) (rs : List RB) (w : Value), k + m = n ∧ rs.length = k ∧ (∀ (j : Nat) r, rs[j]? = some r → (r.e, r.a, r.t) = endR n back j) ∧ (∀ r ∈ rs, S.m r.ob = some (.cells (opL o35) 5) ∧ Av w r.ob ∧ r.ob ≠ S0.n) ∧ S0.n + 1 ≤ S.n ∧ S.m S0.n = some (.cells [.int .i64 1, w] 0) ∧ SlF rbL 5 S (S0.n + 1) w rs ∧
  T.get 0 = .int .i64 n ∧ T.get 1 = .int .i64 back ∧ T.get 5 = .pointer (some ⟨S0.n, 0, none⟩) ∧ T.get 6 = .int .i64 k

def PI5 (S0 : MS) (n : Nat) (back : Int) (k : Nat) (x : AExit) (T : FT) (S : MS) : Prop :=
  x = .normal ∧ ∃ (rs : List RB) (w : Value), rs.length = k + 1 ∧ (∀ (j : Nat) r, rs[j]? = some r → (r.e, r.a, r.t) = endR n back j) ∧ (∀ r ∈ rs, S.m r.ob = some (.cells (opL o35) 5) ∧ Av w r.ob ∧ r.ob ≠ S0.n) ∧ S0.n + 1 ≤ S.n ∧ S.m S0.n = some (.cells [.int .i64 1, w] 0) ∧ SlF rbL 5 S (S0.n + 1) w rs ∧
  T.get 0 = .int .i64 n ∧ T.get 1 = .int .i64 back ∧ T.get 5 = .pointer (some ⟨S0.n, 0, none⟩) ∧ T.get 6 = .int .i64 k

/-- the box is put at the end of the row -/
theorem put5 {S0 S : MS} {n k bx : Nat} {back : Int} {rs : List RB} {w : Value} {r : RB} {T : FT} (hk : k < n) (hn : n ≤ 60) (hl : rs.length = k) (hr : ∀ (j : Nat) r, rs[j]? = some r → (r.e, r.a, r.t) = endR n back j) (hob : ∀ r ∈ rs, S.m r.ob = some (.cells (opL o35) 5) ∧ Av w r.ob ∧ r.ob ≠ S0.n) (hn1 : S0.n + 1 ≤ S.n) (hg : S.m S0.n = some (.cells [.int .i64 1, w] 0)) (hw : SlF rbL 5 S (S0.n + 1) w rs)
    (t0 : T.get 0 = .int .i64 n) (t1 : T.get 1 = .int .i64 back) (t5 : T.get 5 = .pointer (some ⟨S0.n, 0, none⟩)) (t6 : T.get 6 = .int .i64 k) (t7 : T.get 7 = .pointer (some ⟨bx, 0, none⟩)) (hbx : S.m bx = some (.cells (rbL r) 0)) (hro : S.m r.ob = some (.cells (opL o35) 5)) (hrv : Av w r.ob) (hrn : r.ob ≠ S0.n) (hre : (r.e, r.a, r.t) = endR n back k) :
    MWp Try.prog O 136 (.region 14 (ro 5 14) false) T S (PI5 S0 n back k) := by
  refine m_wf fun wf => m_reg ?_
  rw [reg5_14]
  have wf1 := wf_fresh' wf (rbL r) 5
  have hw1 : SlF rbL 5 (S.fresh (rbL r) 5) (S0.n + 1) w rs := hw.keep fun y k hy => fresh_old _ _ _ (Nat.ne_of_lt (wf y k hy))
  obtain ⟨w', S1, a1, a2, a3, a4, a5⟩ := hw1.app2 (bytes := 56) (z := [.slice none 0 0, .int .i64 0, .int .i64 0, .int .i64 0, .int .i64 0]) rb_len rb_one (by decide) (x := .slice (some ⟨S.n, 0, none⟩) 1 1) (new := [r]) wf1 (by simp only [fresh_n]; omega) rfl (by
    have h1 := fresh_at S (rbL r) 5
    show firstCellsM _ 5 1 _ = _
    rw [first_of (n := 1) (sz := 5) (list_of h1) (by decide) (by decide) (by simp [rb_len])]; rfl) (by simp; omega) (by simp; omega)
  have hg1 : S1.m S0.n = some (.cells [.int .i64 1, w] 0) := by rw [a4 S0.n (by simp only [fresh_n]; omega) (hw1.av (by omega)), fresh_old _ _ _ (by omega)]; exact hg
  obtain ⟨S2, u1, u2, u3, u4⟩ := st_one (off := 1) (v := w') hg1 (by simp) (SlF.one a2).1 (SlF.one a2).2
  simp (decide := true) only [FT.get_set, FT.setL, faS_ptr, nilS_ptr, nilS_func, nilS_yield, pickS_bool, ldS_ptr, list_cells, list_ro, partS_none, lenSl_of, lenStr_of, cvInt_of, aminmax_max, aminmax_min, abin_add, abin_sub, abin_mul, abin_eql, abin_neq, abin_lss, abin_leq, abin_gtr, abin_geq, aunary_not, aextract, Option.some.injEq, Prod.mk.injEq, Value.bool.injEq, exists_eq_left', exists_and_left, and_assoc, decide_eq_true_eq, decide_eq_false_iff_not, if_true, if_false, Nat.zero_add, Nat.add_zero, Option.bind_some, true_and, and_true, forall_const, true_implies, Bool.not_eq_true, Bool.false_eq_true, false_implies, ite_self, Nat.mul_one, t5, t7, list_of hg, list_of hbx, partS_rb, bs_rb, List.getElem?_cons_zero, List.getElem?_cons_succ, a1]
  refine ⟨S2, by simpa using u1, ?_⟩
  have keepO : ∀ y, S.m y = some (.cells (opL o35) 5) → Av w y → y ≠ S0.n → S2.m y = some (.cells (opL o35) 5) ∧ Av w' y ∧ y ≠ S0.n := fun y h1 h2 h3 => by
    have hlt := wf _ _ h1
    exact ⟨by rw [u4 y h3, a4 y (by simp only [fresh_n]; omega) h2, fresh_old _ _ _ (by omega)]; exact h1, a5 y (by simp only [fresh_n]; omega) h2, h3⟩
  refine ⟨rfl, rs ++ [r], w', by simp [hl], fun j r' hj => ?_, fun r' hr' => ?_, by simp only [fresh_n] at a3; omega, u2, a2.keep1 fun y k' hy _ => u4 y fun e => ?_, by simp [FT.get_set, FT.setL, faS_ptr, nilS_ptr, nilS_func, nilS_yield, pickS_bool, ldS_ptr, list_cells, list_ro, partS_none, lenSl_of, lenStr_of, cvInt_of, aminmax_max, aminmax_min, abin_add, abin_sub, abin_mul, abin_eql, abin_neq, abin_lss, abin_leq, abin_gtr, abin_geq, aunary_not, aextract, t0], by simp [FT.get_set, FT.setL, faS_ptr, nilS_ptr, nilS_func, nilS_yield, pickS_bool, ldS_ptr, list_cells, list_ro, partS_none, lenSl_of, lenStr_of, cvInt_of, aminmax_max, aminmax_min, abin_add, abin_sub, abin_mul, abin_eql, abin_neq, abin_lss, abin_leq, abin_gtr, abin_geq, aunary_not, aextract, t1], by simp [FT.get_set, FT.setL, faS_ptr, nilS_ptr, nilS_func, nilS_yield, pickS_bool, ldS_ptr, list_cells, list_ro, partS_none, lenSl_of, lenStr_of, cvInt_of, aminmax_max, aminmax_min, abin_add, abin_sub, abin_mul, abin_eql, abin_neq, abin_lss, abin_leq, abin_gtr, abin_geq, aunary_not, aextract, t5], by simp [FT.get_set, FT.setL, faS_ptr, nilS_ptr, nilS_func, nilS_yield, pickS_bool, ldS_ptr, list_cells, list_ro, partS_none, lenSl_of, lenStr_of, cvInt_of, aminmax_max, aminmax_min, abin_add, abin_sub, abin_mul, abin_eql, abin_neq, abin_lss, abin_leq, abin_gtr, abin_geq, aunary_not, aextract, t6]⟩
  · rw [List.getElem?_append] at hj
    split at hj
    · exact hr j r' hj
    · rename_i hge
      have : j = k := by have := (List.getElem?_eq_some_iff.1 hj).1; simp at this; omega
      subst this
      simp [hl] at hj
      subst hj; exact hre
  · rcases List.mem_append.1 hr' with hr' | hr'
    · obtain ⟨h1, h2, h3⟩ := hob r' hr'
      exact keepO _ h1 h2 h3
    · simp at hr'; subst hr'
      exact keepO _ hro hrv hrn
  · subst e
    exact hy (a2.av (by omega))


def QI5 (S1 : MS) (k n : Nat) (back : Int) (b0 : Nat) (c : Prop) (x : AExit) (T : FT) (S : MS) : Prop :=
  x = .normal ∧ ∃ r : RB, (∀ y, y < S1.n → S.m y = S1.m y) ∧ S1.n + 2 ≤ S.n ∧ S.m (S1.n + 1) = some (.cells (rbL r) 0) ∧ S.m r.ob = some (.cells (opL o35) 5) ∧ S1.n ≤ r.ob ∧ (c → (r.e, r.a, r.t) = endR n back k) ∧
  T.get 0 = .int .i64 n ∧ T.get 1 = .int .i64 back ∧ T.get 5 = .pointer (some ⟨b0, 0, none⟩) ∧ T.get 6 = .int .i64 k ∧ T.get 7 = .pointer (some ⟨S1.n + 1, 0, none⟩)

theorem body5a {S0 S1 : MS} {n k : Nat} {back : Int} {rs : List RB} {w : Value} {T : FT} (hk : k < n) (hn : n ≤ 60) (hl : rs.length = k) (hr : ∀ (j : Nat) r, rs[j]? = some r → (r.e, r.a, r.t) = endR n back j) (hob : ∀ r ∈ rs, S1.m r.ob = some (.cells (opL o35) 5) ∧ Av w r.ob ∧ r.ob ≠ S0.n) (hn1 : S0.n + 1 ≤ S1.n) (hg : S1.m S0.n = some (.cells [.int .i64 1, w] 0)) (hw : SlF rbL 5 S1 (S0.n + 1) w rs)
    (t0 : T.get 0 = .int .i64 n) (t1 : T.get 1 = .int .i64 back) (t5 : T.get 5 = .pointer (some ⟨S0.n, 0, none⟩)) (t6 : T.get 6 = .int .i64 k) :
    MWp Try.prog O 136 (.seq (.region 9 (ro 5 9) false) (.seq (.seq (.region 10 (ro 5 10) false) (.cond (.tmp 47) (.region 11 (ro 5 11) false) .skip)) (.seq (.seq (.region 12 (ro 5 12) false) (.cond (.tmp 53) (.region 13 (ro 5 13) false) .skip)) (.region 14 (ro 5 14) false)))) T S1 (PI5 S0 n back k) := by
  refine m_wf fun wf => m_seq (m_reg ?_)
  rw [reg5_9]
  have hwk : IntKind.i64.wrap ((k : Int) + 1) = ((k + 1 : Nat) : Int) := by rw [wrap_i64 (by omega) (by omega)]; rfl
  have hwn : IntKind.i64.wrap ((n : Int) - 1) = (n : Int) - 1 := wrap_i64 (by omega) (by omega)
  obtain ⟨S2, s1, s2, s3, s4⟩ := st_all (n := 5) (cs := (rbL ⟨S1.n, 38, 0, (k + 1 : Nat)⟩).toArray) (fresh_at (S1.fresh (opL o35) 5) [.slice none 0 0, .int .i64 0, .int .i64 0, .int .i64 0, .int .i64 0] 0) rfl rfl rfl
  simp (decide := true) only [FT.get_set, FT.setL, faS_ptr, nilS_ptr, nilS_func, nilS_yield, pickS_bool, ldS_ptr, list_cells, list_ro, partS_none, lenSl_of, lenStr_of, cvInt_of, aminmax_max, aminmax_min, abin_add, abin_sub, abin_mul, abin_eql, abin_neq, abin_lss, abin_leq, abin_gtr, abin_geq, aunary_not, aextract, Option.some.injEq, Prod.mk.injEq, Value.bool.injEq, exists_eq_left', exists_and_left, and_assoc, decide_eq_true_eq, decide_eq_false_iff_not, if_true, if_false, Nat.zero_add, Nat.add_zero, Option.bind_some, true_and, and_true, forall_const, true_implies, Bool.not_eq_true, Bool.false_eq_true, false_implies, ite_self, Nat.mul_one, t6, hwk, bd_o35, bs_op, bd_next, ptrTo]
  refine ⟨S2, s1, ?_⟩
  have hb2 : S2.m (S1.n + 1) = some (.cells (rbL ⟨S1.n, 38, 0, (k + 1 : Nat)⟩) 0) := s2
  have hn2 : S2.n = S1.n + 2 := s3
  have ho2 : S2.m S1.n = some (.cells (opL o35) 5) := by rw [s4 _ (by simp only [fresh_n]; omega), fresh_old _ _ _ (by simp only [fresh_n]; omega), fresh_at]
  have f2 : ∀ y, y < S1.n → S2.m y = S1.m y := fun y hy => by rw [s4 y (by simp only [fresh_n]; omega), fresh_old _ _ _ (by simp only [fresh_n]; omega), fresh_old _ _ _ (by omega)]
  refine m_seq (MWp.mono (Q := QI5 S1 k n back S0.n ((k : Int) ≠ back)) ?_ ?_)
  · refine m_seq (m_reg ?_)
    rw [reg5_10]
    simp (decide := true) only [FT.get_set, FT.setL, faS_ptr, nilS_ptr, nilS_func, nilS_yield, pickS_bool, ldS_ptr, list_cells, list_ro, partS_none, lenSl_of, lenStr_of, cvInt_of, aminmax_max, aminmax_min, abin_add, abin_sub, abin_mul, abin_eql, abin_neq, abin_lss, abin_leq, abin_gtr, abin_geq, aunary_not, aextract, Option.some.injEq, Prod.mk.injEq, Value.bool.injEq, exists_eq_left', exists_and_left, and_assoc, decide_eq_true_eq, decide_eq_false_iff_not, if_true, if_false, Nat.zero_add, Nat.add_zero, Option.bind_some, true_and, and_true, forall_const, true_implies, Bool.not_eq_true, Bool.false_eq_true, false_implies, ite_self, Nat.mul_one, t0, t6, hwn]
    by_cases hlast : k + 1 = n
    · refine m_cond (t := true) (by simp [evalT, FT.get_set, FT.setL, faS_ptr, nilS_ptr, nilS_func, nilS_yield, pickS_bool, ldS_ptr, list_cells, list_ro, partS_none, lenSl_of, lenStr_of, cvInt_of, aminmax_max, aminmax_min, abin_add, abin_sub, abin_mul, abin_eql, abin_neq, abin_lss, abin_leq, abin_gtr, abin_geq, aunary_not, aextract]; omega) (fun _ => m_reg ?_) (fun h => by cases h)
      rw [reg5_11]
      obtain ⟨S3, u1, u2, u3, u4⟩ := st_all (n := 5) (cs := (rbL ⟨S2.n, 40, -1, 0⟩).toArray) (show (S2.fresh (opL o35) 5).m (S1.n + 1) = some (.cells (rbL ⟨S1.n, 38, 0, (k + 1 : Nat)⟩) 0) by rw [fresh_old _ _ _ (by omega)]; exact hb2) rfl rfl rfl
      simp (decide := true) only [FT.get_set, FT.setL, faS_ptr, nilS_ptr, nilS_func, nilS_yield, pickS_bool, ldS_ptr, list_cells, list_ro, partS_none, lenSl_of, lenStr_of, cvInt_of, aminmax_max, aminmax_min, abin_add, abin_sub, abin_mul, abin_eql, abin_neq, abin_lss, abin_leq, abin_gtr, abin_geq, aunary_not, aextract, Option.some.injEq, Prod.mk.injEq, Value.bool.injEq, exists_eq_left', exists_and_left, and_assoc, decide_eq_true_eq, decide_eq_false_iff_not, if_true, if_false, Nat.zero_add, Nat.add_zero, Option.bind_some, true_and, and_true, forall_const, true_implies, Bool.not_eq_true, Bool.false_eq_true, false_implies, ite_self, Nat.mul_one, bd_o35, bs_op, bd_last, fresh_n]
      refine ⟨S3, u1, rfl, ⟨S2.n, 40, -1, 0⟩, fun y hy => ?_, by rw [u3, fresh_n]; omega, u2, ?_, by show S1.n ≤ S2.n; omega, fun hb => ?_, by simp [FT.get_set, FT.setL, faS_ptr, nilS_ptr, nilS_func, nilS_yield, pickS_bool, ldS_ptr, list_cells, list_ro, partS_none, lenSl_of, lenStr_of, cvInt_of, aminmax_max, aminmax_min, abin_add, abin_sub, abin_mul, abin_eql, abin_neq, abin_lss, abin_leq, abin_gtr, abin_geq, aunary_not, aextract, t0], by simp [FT.get_set, FT.setL, faS_ptr, nilS_ptr, nilS_func, nilS_yield, pickS_bool, ldS_ptr, list_cells, list_ro, partS_none, lenSl_of, lenStr_of, cvInt_of, aminmax_max, aminmax_min, abin_add, abin_sub, abin_mul, abin_eql, abin_neq, abin_lss, abin_leq, abin_gtr, abin_geq, aunary_not, aextract, t1], by simp [FT.get_set, FT.setL, faS_ptr, nilS_ptr, nilS_func, nilS_yield, pickS_bool, ldS_ptr, list_cells, list_ro, partS_none, lenSl_of, lenStr_of, cvInt_of, aminmax_max, aminmax_min, abin_add, abin_sub, abin_mul, abin_eql, abin_neq, abin_lss, abin_leq, abin_gtr, abin_geq, aunary_not, aextract, t5], by simp [FT.get_set, FT.setL, faS_ptr, nilS_ptr, nilS_func, nilS_yield, pickS_bool, ldS_ptr, list_cells, list_ro, partS_none, lenSl_of, lenStr_of, cvInt_of, aminmax_max, aminmax_min, abin_add, abin_sub, abin_mul, abin_eql, abin_neq, abin_lss, abin_leq, abin_gtr, abin_geq, aunary_not, aextract, t6], by simp [FT.get_set, FT.setL, faS_ptr, nilS_ptr, nilS_func, nilS_yield, pickS_bool, ldS_ptr, list_cells, list_ro, partS_none, lenSl_of, lenStr_of, cvInt_of, aminmax_max, aminmax_min, abin_add, abin_sub, abin_mul, abin_eql, abin_neq, abin_lss, abin_leq, abin_gtr, abin_geq, aunary_not, aextract]⟩
      · rw [u4 y (by omega), fresh_old _ _ _ (by omega)]; exact f2 y hy
      · show S3.m S2.n = _
        rw [u4 _ (by omega), fresh_at]
      · unfold endR; rw [if_neg hb, if_pos hlast]
    · refine m_cond (t := false) (by simp [evalT, FT.get_set, FT.setL, faS_ptr, nilS_ptr, nilS_func, nilS_yield, pickS_bool, ldS_ptr, list_cells, list_ro, partS_none, lenSl_of, lenStr_of, cvInt_of, aminmax_max, aminmax_min, abin_add, abin_sub, abin_mul, abin_eql, abin_neq, abin_lss, abin_leq, abin_gtr, abin_geq, aunary_not, aextract]; omega) (fun h => by cases h) (fun _ => m_skip ?_)
      refine ⟨rfl, ⟨S1.n, 38, 0, (k + 1 : Nat)⟩, f2, by omega, hb2, ho2, Nat.le_refl _, fun hb => ?_, by simp [FT.get_set, FT.setL, faS_ptr, nilS_ptr, nilS_func, nilS_yield, pickS_bool, ldS_ptr, list_cells, list_ro, partS_none, lenSl_of, lenStr_of, cvInt_of, aminmax_max, aminmax_min, abin_add, abin_sub, abin_mul, abin_eql, abin_neq, abin_lss, abin_leq, abin_gtr, abin_geq, aunary_not, aextract, t0], by simp [FT.get_set, FT.setL, faS_ptr, nilS_ptr, nilS_func, nilS_yield, pickS_bool, ldS_ptr, list_cells, list_ro, partS_none, lenSl_of, lenStr_of, cvInt_of, aminmax_max, aminmax_min, abin_add, abin_sub, abin_mul, abin_eql, abin_neq, abin_lss, abin_leq, abin_gtr, abin_geq, aunary_not, aextract, t1], by simp [FT.get_set, FT.setL, faS_ptr, nilS_ptr, nilS_func, nilS_yield, pickS_bool, ldS_ptr, list_cells, list_ro, partS_none, lenSl_of, lenStr_of, cvInt_of, aminmax_max, aminmax_min, abin_add, abin_sub, abin_mul, abin_eql, abin_neq, abin_lss, abin_leq, abin_gtr, abin_geq, aunary_not, aextract, t5], by simp [FT.get_set, FT.setL, faS_ptr, nilS_ptr, nilS_func, nilS_yield, pickS_bool, ldS_ptr, list_cells, list_ro, partS_none, lenSl_of, lenStr_of, cvInt_of, aminmax_max, aminmax_min, abin_add, abin_sub, abin_mul, abin_eql, abin_neq, abin_lss, abin_leq, abin_gtr, abin_geq, aunary_not, aextract, t6], by simp [FT.get_set, FT.setL, faS_ptr, nilS_ptr, nilS_func, nilS_yield, pickS_bool, ldS_ptr, list_cells, list_ro, partS_none, lenSl_of, lenStr_of, cvInt_of, aminmax_max, aminmax_min, abin_add, abin_sub, abin_mul, abin_eql, abin_neq, abin_lss, abin_leq, abin_gtr, abin_geq, aunary_not, aextract, fresh_n]⟩
      unfold endR; rw [if_neg hb, if_neg hlast]
  rintro _ T3 S3 ⟨rfl, r, f3, hn3, hb3, hro3, hrb3, hre3, g0, g1, g5, g6, g7⟩
  simp only
  refine m_seq (MWp.mono (Q := QI5 S1 k n back S0.n True) ?_ ?_)
  · refine m_seq (m_reg ?_)
    rw [reg5_12]
    simp (decide := true) only [FT.get_set, FT.setL, faS_ptr, nilS_ptr, nilS_func, nilS_yield, pickS_bool, ldS_ptr, list_cells, list_ro, partS_none, lenSl_of, lenStr_of, cvInt_of, aminmax_max, aminmax_min, abin_add, abin_sub, abin_mul, abin_eql, abin_neq, abin_lss, abin_leq, abin_gtr, abin_geq, aunary_not, aextract, Option.some.injEq, Prod.mk.injEq, Value.bool.injEq, exists_eq_left', exists_and_left, and_assoc, decide_eq_true_eq, decide_eq_false_iff_not, if_true, if_false, Nat.zero_add, Nat.add_zero, Option.bind_some, true_and, and_true, forall_const, true_implies, Bool.not_eq_true, Bool.false_eq_true, false_implies, ite_self, Nat.mul_one, g6, g1]
    by_cases hback : (k : Int) = back
    · refine m_cond (t := true) (by simp [evalT, FT.get_set, FT.setL, faS_ptr, nilS_ptr, nilS_func, nilS_yield, pickS_bool, ldS_ptr, list_cells, list_ro, partS_none, lenSl_of, lenStr_of, cvInt_of, aminmax_max, aminmax_min, abin_add, abin_sub, abin_mul, abin_eql, abin_neq, abin_lss, abin_leq, abin_gtr, abin_geq, aunary_not, aextract, hback]) (fun _ => m_reg ?_) (fun h => by cases h)
      rw [reg5_13]
      obtain ⟨S4, u1, u2, u3, u4⟩ := st_all (n := 5) (cs := (rbL ⟨S3.n, 38, 0, 0⟩).toArray) (show (S3.fresh (opL o35) 5).m (S1.n + 1) = some (.cells (rbL r) 0) by rw [fresh_old _ _ _ (by omega)]; exact hb3) rfl rfl rfl
      simp (decide := true) only [FT.get_set, FT.setL, faS_ptr, nilS_ptr, nilS_func, nilS_yield, pickS_bool, ldS_ptr, list_cells, list_ro, partS_none, lenSl_of, lenStr_of, cvInt_of, aminmax_max, aminmax_min, abin_add, abin_sub, abin_mul, abin_eql, abin_neq, abin_lss, abin_leq, abin_gtr, abin_geq, aunary_not, aextract, Option.some.injEq, Prod.mk.injEq, Value.bool.injEq, exists_eq_left', exists_and_left, and_assoc, decide_eq_true_eq, decide_eq_false_iff_not, if_true, if_false, Nat.zero_add, Nat.add_zero, Option.bind_some, true_and, and_true, forall_const, true_implies, Bool.not_eq_true, Bool.false_eq_true, false_implies, ite_self, Nat.mul_one, g7, bd_o35, bs_op, bd_back]
      refine ⟨S4, u1, rfl, ⟨S3.n, 38, 0, 0⟩, fun y hy => ?_, by rw [u3, fresh_n]; omega, u2, ?_, by show S1.n ≤ S3.n; omega, fun _ => ?_, by simp [FT.get_set, FT.setL, faS_ptr, nilS_ptr, nilS_func, nilS_yield, pickS_bool, ldS_ptr, list_cells, list_ro, partS_none, lenSl_of, lenStr_of, cvInt_of, aminmax_max, aminmax_min, abin_add, abin_sub, abin_mul, abin_eql, abin_neq, abin_lss, abin_leq, abin_gtr, abin_geq, aunary_not, aextract, g0], by simp [FT.get_set, FT.setL, faS_ptr, nilS_ptr, nilS_func, nilS_yield, pickS_bool, ldS_ptr, list_cells, list_ro, partS_none, lenSl_of, lenStr_of, cvInt_of, aminmax_max, aminmax_min, abin_add, abin_sub, abin_mul, abin_eql, abin_neq, abin_lss, abin_leq, abin_gtr, abin_geq, aunary_not, aextract, g1], by simp [FT.get_set, FT.setL, faS_ptr, nilS_ptr, nilS_func, nilS_yield, pickS_bool, ldS_ptr, list_cells, list_ro, partS_none, lenSl_of, lenStr_of, cvInt_of, aminmax_max, aminmax_min, abin_add, abin_sub, abin_mul, abin_eql, abin_neq, abin_lss, abin_leq, abin_gtr, abin_geq, aunary_not, aextract, g5], by simp [FT.get_set, FT.setL, faS_ptr, nilS_ptr, nilS_func, nilS_yield, pickS_bool, ldS_ptr, list_cells, list_ro, partS_none, lenSl_of, lenStr_of, cvInt_of, aminmax_max, aminmax_min, abin_add, abin_sub, abin_mul, abin_eql, abin_neq, abin_lss, abin_leq, abin_gtr, abin_geq, aunary_not, aextract, g6], by simp [FT.get_set, FT.setL, faS_ptr, nilS_ptr, nilS_func, nilS_yield, pickS_bool, ldS_ptr, list_cells, list_ro, partS_none, lenSl_of, lenStr_of, cvInt_of, aminmax_max, aminmax_min, abin_add, abin_sub, abin_mul, abin_eql, abin_neq, abin_lss, abin_leq, abin_gtr, abin_geq, aunary_not, aextract, g7]⟩
      · rw [u4 y (by omega), fresh_old _ _ _ (by omega)]; exact f3 y hy
      · show S4.m S3.n = _
        rw [u4 _ (by omega), fresh_at]
      · unfold endR; rw [if_pos hback]
    · refine m_cond (t := false) (by simp [evalT, FT.get_set, FT.setL, faS_ptr, nilS_ptr, nilS_func, nilS_yield, pickS_bool, ldS_ptr, list_cells, list_ro, partS_none, lenSl_of, lenStr_of, cvInt_of, aminmax_max, aminmax_min, abin_add, abin_sub, abin_mul, abin_eql, abin_neq, abin_lss, abin_leq, abin_gtr, abin_geq, aunary_not, aextract, hback]) (fun h => by cases h) (fun _ => m_skip ?_)
      exact ⟨rfl, r, f3, hn3, hb3, hro3, hrb3, fun _ => hre3 hback, by simp [FT.get_set, FT.setL, faS_ptr, nilS_ptr, nilS_func, nilS_yield, pickS_bool, ldS_ptr, list_cells, list_ro, partS_none, lenSl_of, lenStr_of, cvInt_of, aminmax_max, aminmax_min, abin_add, abin_sub, abin_mul, abin_eql, abin_neq, abin_lss, abin_leq, abin_gtr, abin_geq, aunary_not, aextract, g0], by simp [FT.get_set, FT.setL, faS_ptr, nilS_ptr, nilS_func, nilS_yield, pickS_bool, ldS_ptr, list_cells, list_ro, partS_none, lenSl_of, lenStr_of, cvInt_of, aminmax_max, aminmax_min, abin_add, abin_sub, abin_mul, abin_eql, abin_neq, abin_lss, abin_leq, abin_gtr, abin_geq, aunary_not, aextract, g1], by simp [FT.get_set, FT.setL, faS_ptr, nilS_ptr, nilS_func, nilS_yield, pickS_bool, ldS_ptr, list_cells, list_ro, partS_none, lenSl_of, lenStr_of, cvInt_of, aminmax_max, aminmax_min, abin_add, abin_sub, abin_mul, abin_eql, abin_neq, abin_lss, abin_leq, abin_gtr, abin_geq, aunary_not, aextract, g5], by simp [FT.get_set, FT.setL, faS_ptr, nilS_ptr, nilS_func, nilS_yield, pickS_bool, ldS_ptr, list_cells, list_ro, partS_none, lenSl_of, lenStr_of, cvInt_of, aminmax_max, aminmax_min, abin_add, abin_sub, abin_mul, abin_eql, abin_neq, abin_lss, abin_leq, abin_gtr, abin_geq, aunary_not, aextract, g6], by simp [FT.get_set, FT.setL, faS_ptr, nilS_ptr, nilS_func, nilS_yield, pickS_bool, ldS_ptr, list_cells, list_ro, partS_none, lenSl_of, lenStr_of, cvInt_of, aminmax_max, aminmax_min, abin_add, abin_sub, abin_mul, abin_eql, abin_neq, abin_lss, abin_leq, abin_gtr, abin_geq, aunary_not, aextract, g7]⟩
  rintro _ T4 S4 ⟨rfl, r', f4, hn4, hb4, hro4, hrb4, hre4, h0, h1, h5, h6, h7⟩
  simp only
  refine put5 (bx := S1.n + 1) (r := r') hk hn hl hr (fun q hq => ?_) (by omega) ((f4 _ (by omega)).trans hg) (hw.keep fun y k' hy => f4 y (wf y k' hy)) h0 h1 h5 h6 h7 hb4 hro4 (hw.avN wf hrb4) (by omega) (hre4 trivial)
  obtain ⟨q1, q2, q3⟩ := hob q hq
  exact ⟨(f4 _ (wf _ _ q1)).trans q1, q2, q3⟩

theorem loop5 {S0 S : MS} {n : Nat} {back : Int} {T : FT} (hn : n ≤ 60) (hs : RI5 S0 n back n T S) :
    MWp Try.prog O 136 (.block 0 (.loop (.seq (.seq (.region 7 (ro 5 7) false) (.cond (.tmp 36) .skip (.exit 0))) (.seq (.block 1 (.seq (.region 9 (ro 5 9) false) (.seq (.seq (.region 10 (ro 5 10) false) (.cond (.tmp 47) (.region 11 (ro 5 11) false) .skip)) (.seq (.seq (.region 12 (ro 5 12) false) (.cond (.tmp 53) (.region 13 (ro 5 13) false) .skip)) (.region 14 (ro 5 14) false))))) (.region 8 (ro 5 8) false))))) T S (fun x T' S' => x = .normal ∧ RI5 S0 n back 0 T' S') := by
  refine m_block (m_loop (fun m T S' => RI5 S0 n back m T S') _ hs ?_)
  clear hs
  rintro m T S1 ⟨k, rs, w, hk, hl, hr, hob, hn1, hg, hw, t0, t1, t5, t6⟩
  refine m_seq (m_seq (m_reg ?_))
  rw [reg5_7]
  simp (decide := true) only [FT.get_set, FT.setL, faS_ptr, nilS_ptr, nilS_func, nilS_yield, pickS_bool, ldS_ptr, list_cells, list_ro, partS_none, lenSl_of, lenStr_of, cvInt_of, aminmax_max, aminmax_min, abin_add, abin_sub, abin_mul, abin_eql, abin_neq, abin_lss, abin_leq, abin_gtr, abin_geq, aunary_not, aextract, Option.some.injEq, Prod.mk.injEq, Value.bool.injEq, exists_eq_left', exists_and_left, and_assoc, decide_eq_true_eq, decide_eq_false_iff_not, if_true, if_false, Nat.zero_add, Nat.add_zero, Option.bind_some, true_and, and_true, forall_const, true_implies, Bool.not_eq_true, Bool.false_eq_true, false_implies, ite_self, Nat.mul_one, t0, t6]
  refine m_cond (t := decide ((k : Int) < n)) (by simp [evalT, FT.get_set, FT.setL, faS_ptr, nilS_ptr, nilS_func, nilS_yield, pickS_bool, ldS_ptr, list_cells, list_ro, partS_none, lenSl_of, lenStr_of, cvInt_of, aminmax_max, aminmax_min, abin_add, abin_sub, abin_mul, abin_eql, abin_neq, abin_lss, abin_leq, abin_gtr, abin_geq, aunary_not, aextract]) (fun hlt => ?_) (fun hlt => ?_)
  · have hlt : k < n := by have := of_decide_eq_true hlt; omega
    refine m_skip ?_
    simp only
    refine m_seq (m_block (MWp.mono (body5a (S0 := S0) hlt hn hl hr hob hn1 hg hw ?_ ?_ ?_ ?_) ?_))
    · simp [FT.get_set, FT.setL, faS_ptr, nilS_ptr, nilS_func, nilS_yield, pickS_bool, ldS_ptr, list_cells, list_ro, partS_none, lenSl_of, lenStr_of, cvInt_of, aminmax_max, aminmax_min, abin_add, abin_sub, abin_mul, abin_eql, abin_neq, abin_lss, abin_leq, abin_gtr, abin_geq, aunary_not, aextract, t0]
    · simp [FT.get_set, FT.setL, faS_ptr, nilS_ptr, nilS_func, nilS_yield, pickS_bool, ldS_ptr, list_cells, list_ro, partS_none, lenSl_of, lenStr_of, cvInt_of, aminmax_max, aminmax_min, abin_add, abin_sub, abin_mul, abin_eql, abin_neq, abin_lss, abin_leq, abin_gtr, abin_geq, aunary_not, aextract, t1]
    · simp [FT.get_set, FT.setL, faS_ptr, nilS_ptr, nilS_func, nilS_yield, pickS_bool, ldS_ptr, list_cells, list_ro, partS_none, lenSl_of, lenStr_of, cvInt_of, aminmax_max, aminmax_min, abin_add, abin_sub, abin_mul, abin_eql, abin_neq, abin_lss, abin_leq, abin_gtr, abin_geq, aunary_not, aextract, t5]
    · simp [FT.get_set, FT.setL, faS_ptr, nilS_ptr, nilS_func, nilS_yield, pickS_bool, ldS_ptr, list_cells, list_ro, partS_none, lenSl_of, lenStr_of, cvInt_of, aminmax_max, aminmax_min, abin_add, abin_sub, abin_mul, abin_eql, abin_neq, abin_lss, abin_leq, abin_gtr, abin_geq, aunary_not, aextract, t6]
    rintro _ T' S' ⟨rfl, rs', w', a1, a2, a3, a4, a5, a6, g0, g1, g5, g6⟩
    simp only
    refine m_reg ?_
    rw [reg5_8]
    have hwk : IntKind.i64.wrap ((k : Int) + 1) = ((k + 1 : Nat) : Int) := by rw [wrap_i64 (by omega) (by omega)]; rfl
    simp (decide := true) only [FT.get_set, FT.setL, faS_ptr, nilS_ptr, nilS_func, nilS_yield, pickS_bool, ldS_ptr, list_cells, list_ro, partS_none, lenSl_of, lenStr_of, cvInt_of, aminmax_max, aminmax_min, abin_add, abin_sub, abin_mul, abin_eql, abin_neq, abin_lss, abin_leq, abin_gtr, abin_geq, aunary_not, aextract, Option.some.injEq, Prod.mk.injEq, Value.bool.injEq, exists_eq_left', exists_and_left, and_assoc, decide_eq_true_eq, decide_eq_false_iff_not, if_true, if_false, Nat.zero_add, Nat.add_zero, Option.bind_some, true_and, and_true, forall_const, true_implies, Bool.not_eq_true, Bool.false_eq_true, false_implies, ite_self, Nat.mul_one, g6, hwk]
    exact ⟨m - 1, by omega, k + 1, rs', w', by omega, a1, a2, a3, a4, a5, a6, by simp [FT.get_set, FT.setL, faS_ptr, nilS_ptr, nilS_func, nilS_yield, pickS_bool, ldS_ptr, list_cells, list_ro, partS_none, lenSl_of, lenStr_of, cvInt_of, aminmax_max, aminmax_min, abin_add, abin_sub, abin_mul, abin_eql, abin_neq, abin_lss, abin_leq, abin_gtr, abin_geq, aunary_not, aextract, g0], by simp [FT.get_set, FT.setL, faS_ptr, nilS_ptr, nilS_func, nilS_yield, pickS_bool, ldS_ptr, list_cells, list_ro, partS_none, lenSl_of, lenStr_of, cvInt_of, aminmax_max, aminmax_min, abin_add, abin_sub, abin_mul, abin_eql, abin_neq, abin_lss, abin_leq, abin_gtr, abin_geq, aunary_not, aextract, g1], by simp [FT.get_set, FT.setL, faS_ptr, nilS_ptr, nilS_func, nilS_yield, pickS_bool, ldS_ptr, list_cells, list_ro, partS_none, lenSl_of, lenStr_of, cvInt_of, aminmax_max, aminmax_min, abin_add, abin_sub, abin_mul, abin_eql, abin_neq, abin_lss, abin_leq, abin_gtr, abin_geq, aunary_not, aextract, g5], by simp [FT.get_set, FT.setL, faS_ptr, nilS_ptr, nilS_func, nilS_yield, pickS_bool, ldS_ptr, list_cells, list_ro, partS_none, lenSl_of, lenStr_of, cvInt_of, aminmax_max, aminmax_min, abin_add, abin_sub, abin_mul, abin_eql, abin_neq, abin_lss, abin_leq, abin_gtr, abin_geq, aunary_not, aextract]⟩
  · have hlt : ¬ k < n := by have := of_decide_eq_false hlt; omega
    refine m_exit ?_
    simp only [if_true]
    have fin : RI5 S0 n back 0 (((T.set (.int .i64 k) 34).set (.int .i64 n) 35).set (.bool (decide ((k : Int) < n))) 36) S1 := ⟨k, rs, w, by omega, hl, hr, hob, hn1, hg, hw, by simp [FT.get_set, FT.setL, faS_ptr, nilS_ptr, nilS_func, nilS_yield, pickS_bool, ldS_ptr, list_cells, list_ro, partS_none, lenSl_of, lenStr_of, cvInt_of, aminmax_max, aminmax_min, abin_add, abin_sub, abin_mul, abin_eql, abin_neq, abin_lss, abin_leq, abin_gtr, abin_geq, aunary_not, aextract, t0], by simp [FT.get_set, FT.setL, faS_ptr, nilS_ptr, nilS_func, nilS_yield, pickS_bool, ldS_ptr, list_cells, list_ro, partS_none, lenSl_of, lenStr_of, cvInt_of, aminmax_max, aminmax_min, abin_add, abin_sub, abin_mul, abin_eql, abin_neq, abin_lss, abin_leq, abin_gtr, abin_geq, aunary_not, aextract, t1], by simp [FT.get_set, FT.setL, faS_ptr, nilS_ptr, nilS_func, nilS_yield, pickS_bool, ldS_ptr, list_cells, list_ro, partS_none, lenSl_of, lenStr_of, cvInt_of, aminmax_max, aminmax_min, abin_add, abin_sub, abin_mul, abin_eql, abin_neq, abin_lss, abin_leq, abin_gtr, abin_geq, aunary_not, aextract, t5], by simp [FT.get_set, FT.setL, faS_ptr, nilS_ptr, nilS_func, nilS_yield, pickS_bool, ldS_ptr, list_cells, list_ro, partS_none, lenSl_of, lenStr_of, cvInt_of, aminmax_max, aminmax_min, abin_add, abin_sub, abin_mul, abin_eql, abin_neq, abin_lss, abin_leq, abin_gtr, abin_geq, aunary_not, aextract, t6]⟩
    first | exact fin | exact ⟨rfl, fin⟩
end Go.Proofs.Ytgkdmnfmfcdfmaa

