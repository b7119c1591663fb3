/-
  The walk through the code of blocks and of what is reached, part L17: what its functions do to memory. Nothing is asked.
-/
import Derived.Test.YtgkdmnfmfcdfmaaLa16
set_option linter.all false
namespace Go.Proofs.Ytgkdmnfmfcdfmaa
open Go Go.Ag
set_option linter.unusedVariables false
set_option maxRecDepth 100000

theorem veq_int (k : IntKind) (n : Int) : veq (.int k n) (.int k n) = true := by simp [veq, veq1]
theorem veq_slice (p : Option Addr) (n c : Nat) : veq (.slice p n c) (.slice p n c) = true := by simp [veq, veq1]
theorem lenSl_slice {v : Value} {n : Nat} (h : lenSl v = some (.int .i64 n)) : veq v v = true := by
  unfold lenSl at h
  split at h
  · exact veq_slice _ _ _
  · cases h
theorem partS_blk (b : Blk) : partS (some 5) (blkL b) 0 = some (blkV b) := rfl
theorem partS_op (o : Op5) : partS (some 5) (opL o) 0 = some (.agg (opL o).toArray) := rfl

def FA9 (S0 : MS) (bs : List Blk) (rr : Int) (gv : Value) (m : Nat) (T : FT) (S : MS) : Prop :=
  ∃ k : Nat, k + m = bs.length ∧ (∀ (i : Nat) b, i < k → bs[i]? = some b → okB bs.length b) ∧ Old S0 S ∧ S0.n + 3 ≤ S.n ∧ S.m S0.n = some (.cells [.int .i64 rr, gv] 0) ∧ S.m (S0.n + 1) = some (.cells [.int .i64 0, .slice none 0 0] 0) ∧ S.m (S0.n + 2) = some (.cells ((bgL bs bs.length k).map iv) 1) ∧
  T.get 1 = .pointer (some ⟨S0.n, 0, none⟩) ∧ T.get 2 = .pointer (some ⟨S0.n + 1, 0, none⟩) ∧ T.get 4 = .int .i64 bs.length ∧ T.get 5 = .slice (some ⟨S0.n + 2, 0, none⟩) bs.length bs.length ∧ T.get 6 = .int .i64 (pos bs k) ∧ T.get 27 = gv ∧ T.get 28 = .int .i64 bs.length ∧ T.get 29 = .int .i64 k

def FB9 (S0 : MS) (bs : List Blk) (T : FT) (S : MS) : Prop :=
  (∃ b ∈ bs, ¬ okB bs.length b) ∧ Old S0 S ∧ S.m (S0.n + 1) = some (.cells [.int .i64 0, .slice none 0 0] 0) ∧ T.get 2 = .pointer (some ⟨S0.n + 1, 0, none⟩) ∧ T.get 3 = .int .i64 100

theorem first9 {S0 S : MS} {bs : List Blk} {rr : Int} {gv : Value} {T : FT} (hg : Blks S0 gv bs) (wf0 : S0.WF) (hn : bs.length ≤ 2000) (hp : pos bs bs.length ≤ 1000000) (hs : FA9 S0 bs rr gv bs.length T S) :
    MWp Try.prog O 97 (.block 0 (.loop (.seq (.region 7 (ro 9 7) false) (.seq (.cond (.tmp 30) .skip (.exit 0)) (.seq (.block 1 (.seq (.region 8 (ro 9 8) false) (.seq (.seq (.region 9 (ro 9 9) false) (.cond (.tmp 37) (.seq (.region 10 (ro 9 10) false) .ret) .skip)) (.seq (.region 11 (ro 9 11) false) (.region 12 (ro 9 12) true))))) (.region 13 (ro 9 13) false)))))) T S
      (fun x T' S' => (x = .ret ∧ FB9 S0 bs T' S') ∨ (x = .normal ∧ FA9 S0 bs rr gv 0 T' S')) := by
  refine m_block (m_loop (fun m T S' => FA9 S0 bs rr gv m T S') _ hs ?_)
  clear hs
  rintro m T S1 ⟨k, hk, hall, hold, hn3, hgb, hrb, hbb, t1, t2, t4, t5, t6, t27, t28, t29⟩
  have hg1 := hg.keep wf0 hold.2
  refine m_wf fun wf1 => ?_
  refine m_seq (m_reg ?_)
  rw [reg9_7]
  simp (decide := true) only [FT.get_set, FT.setL, faS_ptr, nilS_ptr, nilS_func, nilS_yield, pickS_bool, ldS_ptr, list_cells, list_ro, partS_none, lenSl_of, lenStr_of, cvInt_of, aminmax_max, aminmax_min, abin_add, abin_sub, abin_mul, abin_eql, abin_neq, abin_lss, abin_leq, abin_gtr, abin_geq, aunary_not, aextract, Option.some.injEq, Prod.mk.injEq, Value.bool.injEq, exists_eq_left', exists_and_left, and_assoc, decide_eq_true_eq, decide_eq_false_iff_not, if_true, if_false, Nat.zero_add, Nat.add_zero, Option.bind_some, true_and, and_true, forall_const, true_implies, Bool.not_eq_true, Bool.false_eq_true, false_implies, ite_self, Nat.mul_one, t28, t29]
  refine m_seq (m_cond (t := decide ((k : Int) < bs.length)) (by simp [evalT, FT.get_set, FT.setL, faS_ptr, nilS_ptr, nilS_func, nilS_yield, pickS_bool, ldS_ptr, list_cells, list_ro, partS_none, lenSl_of, lenStr_of, cvInt_of, aminmax_max, aminmax_min, abin_add, abin_sub, abin_mul, abin_eql, abin_neq, abin_lss, abin_leq, abin_gtr, abin_geq, aunary_not, aextract]) (fun hlt => ?_) (fun hlt => ?_))
  · have hlt : k < bs.length := by have := of_decide_eq_true hlt; omega
    refine m_skip ?_
    simp only
    obtain ⟨b, hb⟩ : ∃ b, bs[k]? = some b := ⟨_, List.getElem?_eq_getElem hlt⟩
    obtain ⟨p, hp1, hp2⟩ := hg1.at hb
    have hbm := List.mem_of_getElem? hb
    have hpk : pos bs (k + 1) = pos bs k + bLen b k := pos_succ hb
    have hpk2 : pos bs (k + 1) ≤ pos bs bs.length := pos_mono bs hlt
    have hbl : b.ops.length + (tailL b k).length ≤ 1000000 := by unfold bLen at hpk; omega
    have hops : b.ops.length ≤ 1000000 := by omega
    refine m_seq (m_block (m_seq (m_reg ?_)))
    rw [reg9_8]
    simp (decide := true) only [FT.get_set, FT.setL, faS_ptr, nilS_ptr, nilS_func, nilS_yield, pickS_bool, ldS_ptr, list_cells, list_ro, partS_none, lenSl_of, lenStr_of, cvInt_of, aminmax_max, aminmax_min, abin_add, abin_sub, abin_mul, abin_eql, abin_neq, abin_lss, abin_leq, abin_gtr, abin_geq, aunary_not, aextract, Option.some.injEq, Prod.mk.injEq, Value.bool.injEq, exists_eq_left', exists_and_left, and_assoc, decide_eq_true_eq, decide_eq_false_iff_not, if_true, if_false, Nat.zero_add, Nat.add_zero, Option.bind_some, true_and, and_true, forall_const, true_implies, Bool.not_eq_true, Bool.false_eq_true, false_implies, ite_self, Nat.mul_one, t27, t29, hp1, hp2, ptrTo]
    obtain ⟨S2, s1, s2, s3, s4⟩ := st_all (n := 5) (cs := (blkL b).toArray) (fresh_at S1 [.slice none 0 0, .int .i64 0, .int .i64 0, .int .i64 0, .int .i64 0] 0) rfl rfl (by
      show (blkL b).all oneCell = true
      simp only [blkL, List.all_cons, (hg1.ops b hbm).oneC]; rfl)
    have hs2 : S2.m S1.n = some (.cells (blkL b) 0) := s2
    have hn2 : S2.n = S1.n + 1 := s3
    refine ⟨S2, s1, ?_⟩
    have f2 : Old S1 S2 := ⟨by omega, fun y hy => by rw [s4 y (by omega), fresh_old _ _ _ (by omega)]⟩
    have ho2 := (hg1.ops b hbm).keep wf1 f2.2
    refine m_seq (m_seq (m_reg ?_))
    rw [reg9_9]
    simp (decide := true) only [FT.get_set, FT.setL, faS_ptr, nilS_ptr, nilS_func, nilS_yield, pickS_bool, ldS_ptr, list_cells, list_ro, partS_none, lenSl_of, lenStr_of, cvInt_of, aminmax_max, aminmax_min, abin_add, abin_sub, abin_mul, abin_eql, abin_neq, abin_lss, abin_leq, abin_gtr, abin_geq, aunary_not, aextract, Option.some.injEq, Prod.mk.injEq, Value.bool.injEq, exists_eq_left', exists_and_left, and_assoc, decide_eq_true_eq, decide_eq_false_iff_not, if_true, if_false, Nat.zero_add, Nat.add_zero, Option.bind_some, true_and, and_true, forall_const, true_implies, Bool.not_eq_true, Bool.false_eq_true, false_implies, ite_self, Nat.mul_one, t4, list_of hs2, partS_blk]
    refine callM_wf_post (right21 ho2 hops fun r S3 hr f3 wf3 => ?_)
    simp (decide := true) only [FT.get_set, FT.setL, faS_ptr, nilS_ptr, nilS_func, nilS_yield, pickS_bool, ldS_ptr, list_cells, list_ro, partS_none, lenSl_of, lenStr_of, cvInt_of, aminmax_max, aminmax_min, abin_add, abin_sub, abin_mul, abin_eql, abin_neq, abin_lss, abin_leq, abin_gtr, abin_geq, aunary_not, aextract, Option.some.injEq, Prod.mk.injEq, Value.bool.injEq, exists_eq_left', exists_and_left, and_assoc, decide_eq_true_eq, decide_eq_false_iff_not, if_true, if_false, Nat.zero_add, Nat.add_zero, Option.bind_some, true_and, and_true, forall_const, true_implies, Bool.not_eq_true, Bool.false_eq_true, false_implies, ite_self, Nat.mul_one, ]
    have hs3 := (f3.2 S1.n (by omega)).trans hs2
    have f13 := f2.trans f3
    cases r with
    | false =>
      refine m_cond (t := true) (by simp [evalT, FT.get_set, FT.setL, faS_ptr, nilS_ptr, nilS_func, nilS_yield, pickS_bool, ldS_ptr, list_cells, list_ro, partS_none, lenSl_of, lenStr_of, cvInt_of, aminmax_max, aminmax_min, abin_add, abin_sub, abin_mul, abin_eql, abin_neq, abin_lss, abin_leq, abin_gtr, abin_geq, aunary_not, aextract]) (fun _ => ?_) (fun h => by cases h)
      refine m_seq (m_reg ?_)
      rw [reg9_10]
      obtain ⟨S4, u1, u2, u3, u4⟩ := st_all (n := 2) (cs := #[.int .i64 0, .slice none 0 0]) ((f13.2 (S0.n + 1) (by omega)).trans hrb) rfl rfl rfl
      have hbd : bdS (fun i => [(0, 1), (1, 1)][i]?) [.int .i64 0, .slice none 0 0] [] = some (.agg #[.int .i64 0, .slice none 0 0]) := rfl
      simp (decide := true) only [FT.get_set, FT.setL, faS_ptr, nilS_ptr, nilS_func, nilS_yield, pickS_bool, ldS_ptr, list_cells, list_ro, partS_none, lenSl_of, lenStr_of, cvInt_of, aminmax_max, aminmax_min, abin_add, abin_sub, abin_mul, abin_eql, abin_neq, abin_lss, abin_leq, abin_gtr, abin_geq, aunary_not, aextract, Option.some.injEq, Prod.mk.injEq, Value.bool.injEq, exists_eq_left', exists_and_left, and_assoc, decide_eq_true_eq, decide_eq_false_iff_not, if_true, if_false, Nat.zero_add, Nat.add_zero, Option.bind_some, true_and, and_true, forall_const, true_implies, Bool.not_eq_true, Bool.false_eq_true, false_implies, ite_self, Nat.mul_one, t2, hbd]
      refine ⟨S4, u1, m_ret (.inl ⟨rfl, ⟨b, hbm, fun h => by have := hr.2 h; cases this⟩, ⟨by have := hold.1; have := f13.1; omega, fun y hy => by rw [u4 y (by omega), f13.2 y (by omega)]; exact hold.2 y hy⟩, u2, by simp [FT.get_set, FT.setL, faS_ptr, nilS_ptr, nilS_func, nilS_yield, pickS_bool, ldS_ptr, list_cells, list_ro, partS_none, lenSl_of, lenStr_of, cvInt_of, aminmax_max, aminmax_min, abin_add, abin_sub, abin_mul, abin_eql, abin_neq, abin_lss, abin_leq, abin_gtr, abin_geq, aunary_not, aextract, t2], by simp [FT.get_set, FT.setL, faS_ptr, nilS_ptr, nilS_func, nilS_yield, pickS_bool, ldS_ptr, list_cells, list_ro, partS_none, lenSl_of, lenStr_of, cvInt_of, aminmax_max, aminmax_min, abin_add, abin_sub, abin_mul, abin_eql, abin_neq, abin_lss, abin_leq, abin_gtr, abin_geq, aunary_not, aextract]⟩)⟩
    | true =>
      refine m_cond (t := false) (by simp [evalT, FT.get_set, FT.setL, faS_ptr, nilS_ptr, nilS_func, nilS_yield, pickS_bool, ldS_ptr, list_cells, list_ro, partS_none, lenSl_of, lenStr_of, cvInt_of, aminmax_max, aminmax_min, abin_add, abin_sub, abin_mul, abin_eql, abin_neq, abin_lss, abin_leq, abin_gtr, abin_geq, aunary_not, aextract]) (fun h => by cases h) (fun _ => m_skip ?_)
      simp only
      have hbb3 := (f13.2 (S0.n + 2) (by omega)).trans hbb
      refine m_seq (m_reg ?_)
      rw [reg9_11]
      obtain ⟨S4, u1, u2, u3, u4⟩ := st_one (off := k) (v := .int .i64 (pos bs k)) hbb3 (by rw [List.length_map, bg_len]; exact hlt) rfl rfl
      simp (decide := true) only [FT.get_set, FT.setL, faS_ptr, nilS_ptr, nilS_func, nilS_yield, pickS_bool, ldS_ptr, list_cells, list_ro, partS_none, lenSl_of, lenStr_of, cvInt_of, aminmax_max, aminmax_min, abin_add, abin_sub, abin_mul, abin_eql, abin_neq, abin_lss, abin_leq, abin_gtr, abin_geq, aunary_not, aextract, Option.some.injEq, Prod.mk.injEq, Value.bool.injEq, exists_eq_left', exists_and_left, and_assoc, decide_eq_true_eq, decide_eq_false_iff_not, if_true, if_false, Nat.zero_add, Nat.add_zero, Option.bind_some, true_and, and_true, forall_const, true_implies, Bool.not_eq_true, Bool.false_eq_true, false_implies, ite_self, Nat.mul_one, t5, t6, iaSS_of (k := .i64) (i := (k : Int)) (by omega) (by omega : (k : Int) < (bs.length : Int)), Int.toNat_natCast]
      refine ⟨S4, u1, ?_⟩
      have u2' : S4.m (S0.n + 2) = some (.cells ((bgL bs bs.length (k + 1)).map iv) 1) := by
        rw [u2, ← bg_set bs hlt, List.map_set]; rfl
      have hs4 := (u4 S1.n (by omega)).trans hs3
      refine m_draw ?_
      rw [reg9_12]
      simp (decide := true) only [FT.get_set, FT.setL, faS_ptr, nilS_ptr, nilS_func, nilS_yield, pickS_bool, ldS_ptr, list_cells, list_ro, partS_none, lenSl_of, lenStr_of, cvInt_of, aminmax_max, aminmax_min, abin_add, abin_sub, abin_mul, abin_eql, abin_neq, abin_lss, abin_leq, abin_gtr, abin_geq, aunary_not, aextract, Option.some.injEq, Prod.mk.injEq, Value.bool.injEq, exists_eq_left', exists_and_left, and_assoc, decide_eq_true_eq, decide_eq_false_iff_not, if_true, if_false, Nat.zero_add, Nat.add_zero, Option.bind_some, true_and, and_true, forall_const, true_implies, Bool.not_eq_true, Bool.false_eq_true, false_implies, ite_self, Nat.mul_one, t6, list_of hs4, partS_blk]
      refine callM_wf_post (tail22 (by omega) (hr.1 rfl).2 fun v S5 hv f5 wf5 => ?_)
      have hn4 : S4.n = S3.n := u3
      have hs5 := (f5.2 S1.n (by have := f13.1; have := f3.1; omega)).trans hs4
      have hov : lenSl b.ov = some (.int .i64 b.ops.length) := (hg1.ops b hbm).len
      have hw1 : IntKind.i64.wrap ((b.ops.length : Int) + ((tailL b k).length : Int)) = ((bLen b k : Nat) : Int) := by rw [wrap_i64 (by omega) (by omega)]; unfold bLen; omega
      have hw2 : IntKind.i64.wrap ((pos bs k : Int) + ((bLen b k : Nat) : Int)) = ((pos bs (k + 1) : Nat) : Int) := by rw [wrap_i64 (by omega) (by omega)]; omega
      simp (decide := true) only [FT.get_set, FT.setL, faS_ptr, nilS_ptr, nilS_func, nilS_yield, pickS_bool, ldS_ptr, list_cells, list_ro, partS_none, lenSl_of, lenStr_of, cvInt_of, aminmax_max, aminmax_min, abin_add, abin_sub, abin_mul, abin_eql, abin_neq, abin_lss, abin_leq, abin_gtr, abin_geq, aunary_not, aextract, Option.some.injEq, Prod.mk.injEq, Value.bool.injEq, exists_eq_left', exists_and_left, and_assoc, decide_eq_true_eq, decide_eq_false_iff_not, if_true, if_false, Nat.zero_add, Nat.add_zero, Option.bind_some, true_and, and_true, forall_const, true_implies, Bool.not_eq_true, Bool.false_eq_true, false_implies, ite_self, Nat.mul_one, t6, list_of hs5, list_of hs4, bl0, lenSl_slice hov, hov, veq_int, hv.lenSl, hw1, hw2]
      refine m_reg ?_
      rw [reg9_13]
      have hw : IntKind.i64.wrap ((k : Int) + 1) = ((k + 1 : Nat) : Int) := by rw [wrap_i64 (by omega) (by omega)]; rfl
      simp (decide := true) only [FT.get_set, FT.setL, faS_ptr, nilS_ptr, nilS_func, nilS_yield, pickS_bool, ldS_ptr, list_cells, list_ro, partS_none, lenSl_of, lenStr_of, cvInt_of, aminmax_max, aminmax_min, abin_add, abin_sub, abin_mul, abin_eql, abin_neq, abin_lss, abin_leq, abin_gtr, abin_geq, aunary_not, aextract, Option.some.injEq, Prod.mk.injEq, Value.bool.injEq, exists_eq_left', exists_and_left, and_assoc, decide_eq_true_eq, decide_eq_false_iff_not, if_true, if_false, Nat.zero_add, Nat.add_zero, Option.bind_some, true_and, and_true, forall_const, true_implies, Bool.not_eq_true, Bool.false_eq_true, false_implies, ite_self, Nat.mul_one, t29, hw]
      have e5 : ∀ y, y < S1.n → y ≠ S0.n + 2 → S5.m y = S1.m y := fun y hy hne => by
        rw [f5.2 y (by have := f13.1; omega), u4 y hne, f13.2 y hy]
      refine ⟨m - 1, by omega, k + 1, by omega, fun i b' hi hb' => ?_, ⟨by have := hold.1; have := f13.1; have := f5.1; omega, fun y hy => by rw [e5 y (by have := hold.1; omega) (by omega)]; exact hold.2 y hy⟩, by have := f13.1; have := f5.1; omega, ?_, ?_, ?_, by simp [FT.get_set, FT.setL, faS_ptr, nilS_ptr, nilS_func, nilS_yield, pickS_bool, ldS_ptr, list_cells, list_ro, partS_none, lenSl_of, lenStr_of, cvInt_of, aminmax_max, aminmax_min, abin_add, abin_sub, abin_mul, abin_eql, abin_neq, abin_lss, abin_leq, abin_gtr, abin_geq, aunary_not, aextract, t1], by simp [FT.get_set, FT.setL, faS_ptr, nilS_ptr, nilS_func, nilS_yield, pickS_bool, ldS_ptr, list_cells, list_ro, partS_none, lenSl_of, lenStr_of, cvInt_of, aminmax_max, aminmax_min, abin_add, abin_sub, abin_mul, abin_eql, abin_neq, abin_lss, abin_leq, abin_gtr, abin_geq, aunary_not, aextract, t2], by simp [FT.get_set, FT.setL, faS_ptr, nilS_ptr, nilS_func, nilS_yield, pickS_bool, ldS_ptr, list_cells, list_ro, partS_none, lenSl_of, lenStr_of, cvInt_of, aminmax_max, aminmax_min, abin_add, abin_sub, abin_mul, abin_eql, abin_neq, abin_lss, abin_leq, abin_gtr, abin_geq, aunary_not, aextract, t4], by simp [FT.get_set, FT.setL, faS_ptr, nilS_ptr, nilS_func, nilS_yield, pickS_bool, ldS_ptr, list_cells, list_ro, partS_none, lenSl_of, lenStr_of, cvInt_of, aminmax_max, aminmax_min, abin_add, abin_sub, abin_mul, abin_eql, abin_neq, abin_lss, abin_leq, abin_gtr, abin_geq, aunary_not, aextract, t5], by simp [FT.get_set, FT.setL, faS_ptr, nilS_ptr, nilS_func, nilS_yield, pickS_bool, ldS_ptr, list_cells, list_ro, partS_none, lenSl_of, lenStr_of, cvInt_of, aminmax_max, aminmax_min, abin_add, abin_sub, abin_mul, abin_eql, abin_neq, abin_lss, abin_leq, abin_gtr, abin_geq, aunary_not, aextract], by simp [FT.get_set, FT.setL, faS_ptr, nilS_ptr, nilS_func, nilS_yield, pickS_bool, ldS_ptr, list_cells, list_ro, partS_none, lenSl_of, lenStr_of, cvInt_of, aminmax_max, aminmax_min, abin_add, abin_sub, abin_mul, abin_eql, abin_neq, abin_lss, abin_leq, abin_gtr, abin_geq, aunary_not, aextract, t27], by simp [FT.get_set, FT.setL, faS_ptr, nilS_ptr, nilS_func, nilS_yield, pickS_bool, ldS_ptr, list_cells, list_ro, partS_none, lenSl_of, lenStr_of, cvInt_of, aminmax_max, aminmax_min, abin_add, abin_sub, abin_mul, abin_eql, abin_neq, abin_lss, abin_leq, abin_gtr, abin_geq, aunary_not, aextract, t28], by simp [FT.get_set, FT.setL, faS_ptr, nilS_ptr, nilS_func, nilS_yield, pickS_bool, ldS_ptr, list_cells, list_ro, partS_none, lenSl_of, lenStr_of, cvInt_of, aminmax_max, aminmax_min, abin_add, abin_sub, abin_mul, abin_eql, abin_neq, abin_lss, abin_leq, abin_gtr, abin_geq, aunary_not, aextract]⟩
      · by_cases e : i = k
        · subst e; rw [hb] at hb'; cases hb'; exact hr.1 rfl
        · exact hall i b' (by omega) hb'
      · rw [e5 _ (by omega) (by omega)]; exact hgb
      · rw [e5 _ (by omega) (by omega)]; exact hrb
      · rw [f5.2 _ (by have := f13.1; omega)]; exact u2'
  · have hlt : ¬ k < bs.length := by have := of_decide_eq_false hlt; omega
    have hkn : k = bs.length := by omega
    subst hkn
    refine m_exit ?_
    simp only [if_true]
    have fin : FA9 S0 bs rr gv 0 ((T.set (.bool (decide ((bs.length : Int) < bs.length))) 30)) S1 := ⟨bs.length, rfl, hall, hold, hn3, hgb, hrb, hbb, by simp [FT.get_set, FT.setL, faS_ptr, nilS_ptr, nilS_func, nilS_yield, pickS_bool, ldS_ptr, list_cells, list_ro, partS_none, lenSl_of, lenStr_of, cvInt_of, aminmax_max, aminmax_min, abin_add, abin_sub, abin_mul, abin_eql, abin_neq, abin_lss, abin_leq, abin_gtr, abin_geq, aunary_not, aextract, t1], by simp [FT.get_set, FT.setL, faS_ptr, nilS_ptr, nilS_func, nilS_yield, pickS_bool, ldS_ptr, list_cells, list_ro, partS_none, lenSl_of, lenStr_of, cvInt_of, aminmax_max, aminmax_min, abin_add, abin_sub, abin_mul, abin_eql, abin_neq, abin_lss, abin_leq, abin_gtr, abin_geq, aunary_not, aextract, t2], by simp [FT.get_set, FT.setL, faS_ptr, nilS_ptr, nilS_func, nilS_yield, pickS_bool, ldS_ptr, list_cells, list_ro, partS_none, lenSl_of, lenStr_of, cvInt_of, aminmax_max, aminmax_min, abin_add, abin_sub, abin_mul, abin_eql, abin_neq, abin_lss, abin_leq, abin_gtr, abin_geq, aunary_not, aextract, t4], by simp [FT.get_set, FT.setL, faS_ptr, nilS_ptr, nilS_func, nilS_yield, pickS_bool, ldS_ptr, list_cells, list_ro, partS_none, lenSl_of, lenStr_of, cvInt_of, aminmax_max, aminmax_min, abin_add, abin_sub, abin_mul, abin_eql, abin_neq, abin_lss, abin_leq, abin_gtr, abin_geq, aunary_not, aextract, t5], by simp [FT.get_set, FT.setL, faS_ptr, nilS_ptr, nilS_func, nilS_yield, pickS_bool, ldS_ptr, list_cells, list_ro, partS_none, lenSl_of, lenStr_of, cvInt_of, aminmax_max, aminmax_min, abin_add, abin_sub, abin_mul, abin_eql, abin_neq, abin_lss, abin_leq, abin_gtr, abin_geq, aunary_not, aextract, t6], by simp [FT.get_set, FT.setL, faS_ptr, nilS_ptr, nilS_func, nilS_yield, pickS_bool, ldS_ptr, list_cells, list_ro, partS_none, lenSl_of, lenStr_of, cvInt_of, aminmax_max, aminmax_min, abin_add, abin_sub, abin_mul, abin_eql, abin_neq, abin_lss, abin_leq, abin_gtr, abin_geq, aunary_not, aextract, t27], by simp [FT.get_set, FT.setL, faS_ptr, nilS_ptr, nilS_func, nilS_yield, pickS_bool, ldS_ptr, list_cells, list_ro, partS_none, lenSl_of, lenStr_of, cvInt_of, aminmax_max, aminmax_min, abin_add, abin_sub, abin_mul, abin_eql, abin_neq, abin_lss, abin_leq, abin_gtr, abin_geq, aunary_not, aextract, t28], by simp [FT.get_set, FT.setL, faS_ptr, nilS_ptr, nilS_func, nilS_yield, pickS_bool, ldS_ptr, list_cells, list_ro, partS_none, lenSl_of, lenStr_of, cvInt_of, aminmax_max, aminmax_min, abin_add, abin_sub, abin_mul, abin_eql, abin_neq, abin_lss, abin_leq, abin_gtr, abin_geq, aunary_not, aextract, t29]⟩
    first | exact .inr fin | exact .inr ⟨rfl, fin⟩ | exact .inr ⟨trivial, fin⟩ | exact fin
end Go.Proofs.Ytgkdmnfmfcdfmaa

