/-
  The walk through the code of blocks and of what is reached, part L19: what its functions do to memory. Nothing is asked.
-/
import Derived.Test.YtgkdmnfmfcdfmaaLa18
set_option linter.all false
namespace Go.Proofs.Ytgkdmnfmfcdfmaa
open Go Go.Ag
set_option linter.unusedVariables false
set_option maxRecDepth 100000

theorem ag29 : aggT Try.prog 29 = some (some 2) := by kernel_rfl
theorem mload29 (S : MS) (x : Value) : mload Try.prog S 29 x = ldS (some 2) S x := by unfold mload; rw [ag29]

def FE9 (S0 : MS) (bs : List Blk) (rr : Int) (gv : Value) (fb : Nat) (m : Nat) (T : FT) (S : MS) : Prop :=
  ∃ (k : Nat) (w : Value), k + m = bs.length ∧ FC9 S0 bs rr gv fb w (allOps bs k) T S ∧ T.get 60 = .int .i64 k

theorem second9 {S0 S : MS} {bs : List Blk} {rr : Int} {gv : Value} {fb : Nat} {T : FT} (hok : okG bs) (hg : Blks S0 gv bs) (wf0 : S0.WF) (hp : pos bs bs.length ≤ 1000000) (hs : FE9 S0 bs rr gv fb bs.length T S) :
    MWp Try.prog O 97 (.block 2 (.loop (.seq (.region 16 (ro 9 16) false) (.seq (.cond (.tmp 61) .skip (.exit 2)) (.seq (.block 3 (.seq (.region 17 (ro 9 17) false) (.seq (.region 18 (ro 9 18) false) (.seq (.region 19 (ro 9 19) false) (.block 4 (.loop (.seq (.region 20 (ro 9 20) false) (.seq (.cond (.tmp 76) .skip (.exit 4)) (.seq (.block 5 (.seq (.region 21 (ro 9 21) false) (.seq (.seq (.region 22 (ro 9 22) false) (.cond (.tmp 81) (.region 23 (ro 9 23) false) .skip)) (.region 24 (ro 9 24) false)))) (.region 25 (ro 9 25) false)))))))))) (.region 26 (ro 9 26) false)))))) T S
      (fun x T' S' => x = .normal ∧ ∃ w, FC9 S0 bs rr gv fb w (allOps bs bs.length) T' S') := by
  have hn := hok.2.1
  refine m_block (m_loop (fun m T S' => FE9 S0 bs rr gv fb m T S') _ hs ?_)
  clear hs
  rintro m T S1 ⟨k, w, hk, hc, t60⟩
  have c1 := hc.fb1
  have c2 := hc.fb2
  have c3 := hc.old.1
  have hg1 := hg.keep wf0 hc.old.2
  refine m_wf fun wf1 => ?_
  refine m_seq (m_reg ?_)
  rw [reg9_16]
  simp (decide := true) only [FT.get_set, FT.setL, faS_ptr, nilS_ptr, nilS_func, nilS_yield, pickS_bool, ldS_ptr, list_cells, list_ro, partS_none, lenSl_of, lenStr_of, cvInt_of, aminmax_max, aminmax_min, abin_add, abin_sub, abin_mul, abin_eql, abin_neq, abin_lss, abin_leq, abin_gtr, abin_geq, aunary_not, aextract, Option.some.injEq, Prod.mk.injEq, Value.bool.injEq, exists_eq_left', exists_and_left, and_assoc, decide_eq_true_eq, decide_eq_false_iff_not, if_true, if_false, Nat.zero_add, Nat.add_zero, Option.bind_some, true_and, and_true, forall_const, true_implies, Bool.not_eq_true, Bool.false_eq_true, false_implies, ite_self, Nat.mul_one, hc.t59, t60]
  refine m_seq (m_cond (t := decide ((k : Int) < bs.length)) (by simp [evalT, FT.get_set, FT.setL, faS_ptr, nilS_ptr, nilS_func, nilS_yield, pickS_bool, ldS_ptr, list_cells, list_ro, partS_none, lenSl_of, lenStr_of, cvInt_of, aminmax_max, aminmax_min, abin_add, abin_sub, abin_mul, abin_eql, abin_neq, abin_lss, abin_leq, abin_gtr, abin_geq, aunary_not, aextract]) (fun hlt => ?_) (fun hlt => ?_))
  · have hlt : k < bs.length := by have := of_decide_eq_true hlt; omega
    refine m_skip ?_
    simp only
    obtain ⟨b, hb⟩ : ∃ b, bs[k]? = some b := ⟨_, List.getElem?_eq_getElem hlt⟩
    obtain ⟨p, hp1, hp2⟩ := hg1.at hb
    have hbm := List.mem_of_getElem? hb
    have hpk : pos bs (k + 1) = pos bs k + bLen b k := pos_succ hb
    have hpk2 : pos bs (k + 1) ≤ pos bs bs.length := pos_mono bs hlt
    have hbl : pos bs k + b.ops.length + (tailL b k).length ≤ 1000000 := by unfold bLen at hpk; omega
    refine m_seq (m_block (m_seq (m_reg ?_)))
    rw [reg9_17]
    simp (decide := true) only [FT.get_set, FT.setL, faS_ptr, nilS_ptr, nilS_func, nilS_yield, pickS_bool, ldS_ptr, list_cells, list_ro, partS_none, lenSl_of, lenStr_of, cvInt_of, aminmax_max, aminmax_min, abin_add, abin_sub, abin_mul, abin_eql, abin_neq, abin_lss, abin_leq, abin_gtr, abin_geq, aunary_not, aextract, Option.some.injEq, Prod.mk.injEq, Value.bool.injEq, exists_eq_left', exists_and_left, and_assoc, decide_eq_true_eq, decide_eq_false_iff_not, if_true, if_false, Nat.zero_add, Nat.add_zero, Option.bind_some, true_and, and_true, forall_const, true_implies, Bool.not_eq_true, Bool.false_eq_true, false_implies, ite_self, Nat.mul_one, hc.t58, t60, hp1, hp2, ptrTo]
    obtain ⟨S2, s1, s2, s3, s4⟩ := st_all (n := 5) (cs := (blkL b).toArray) (fresh_at S1 [.slice none 0 0, .int .i64 0, .int .i64 0, .int .i64 0, .int .i64 0] 0) rfl rfl (by
      show (blkL b).all oneCell = true
      simp only [blkL, List.all_cons, (hg1.ops b hbm).oneC]; rfl)
    have hs2 : S2.m S1.n = some (.cells (blkL b) 0) := s2
    have hn2 : S2.n = S1.n + 1 := s3
    refine ⟨S2, s1, ?_⟩
    have f2 : ∀ y, y < S1.n → S2.m y = S1.m y := fun y hy => by rw [s4 y (by omega), fresh_old _ _ _ (by omega)]
    refine m_wf fun wf2 => ?_
    have ho2 := (hg1.ops b hbm).keep wf1 f2
    refine m_seq (m_reg ?_)
    rw [reg9_18]
    obtain ⟨w', S3, S4, a1, a2, a3, a4, a5, a6⟩ := (hc.keep wf1 f2 (by omega) rfl rfl rfl rfl rfl : FC9 S0 bs rr gv fb w (allOps bs k) T S2).push (x := b.ov) (new := b.ops) (tv := .slice none 0 0) (tl := []) (C := fb + 1) wf2 ho2.lenA (ho2.first (hg1.emp b hbm)) (by rw [all_len]; omega) .non (by omega) (fun y hy => (hy fun l c e => by cases e).elim)
    have hfb2 := (f2 fb c2).trans hc.fbc
    simp (decide := true) only [FT.get_set, FT.setL, faS_ptr, nilS_ptr, nilS_func, nilS_yield, pickS_bool, ldS_ptr, list_cells, list_ro, partS_none, lenSl_of, lenStr_of, cvInt_of, aminmax_max, aminmax_min, abin_add, abin_sub, abin_mul, abin_eql, abin_neq, abin_lss, abin_leq, abin_gtr, abin_geq, aunary_not, aextract, Option.some.injEq, Prod.mk.injEq, Value.bool.injEq, exists_eq_left', exists_and_left, and_assoc, decide_eq_true_eq, decide_eq_false_iff_not, if_true, if_false, Nat.zero_add, Nat.add_zero, Option.bind_some, true_and, and_true, forall_const, true_implies, Bool.not_eq_true, Bool.false_eq_true, false_implies, ite_self, Nat.mul_one, hc.t9, list_of hfb2, list_of hs2, bl0, List.getElem?_cons_zero, List.getElem?_cons_succ, a1]
    refine ⟨S4, by simpa using a2, ?_⟩
    have hs4 : ∀ T', T'.get 2 = T.get 2 → T'.get 5 = T.get 5 → T'.get 9 = T.get 9 → T'.get 58 = T.get 58 → T'.get 59 = T.get 59 → FC9 S0 bs rr gv fb w' (allOps bs k ++ b.ops) T' S4 := a4
    have hbx4 : S4.m S1.n = some (.cells (blkL b) 0) := by
      have hav : Av w S1.n := hc.w.avN wf1 (Nat.le_refl _)
      have hB := (hs4 T rfl rfl rfl rfl rfl).w
      -- the box is neither f's slice nor f
      obtain ⟨w2, S3', b1, b2, b3, b4, b5⟩ := (hc.w.keep (fun y k hy => f2 y (wf1 y k hy)) : SlF opL 5 S2 (fb + 1) w (allOps bs k)).app2 (bytes := 40) (z := [.int .i64 0, .int .i64 0, .int .i64 0, .int .i64 0, .int .i64 0]) opL_len opL_one (by decide) wf2 (by omega) ho2.lenA (ho2.first (hg1.emp b hbm)) (by rw [all_len]; omega) (by rw [all_len]; omega)
      rw [b1] at a1
      cases a1
      have := b4 S1.n (by omega) hav
      obtain ⟨S4', d1, d2, d3, d4⟩ := st_one (off := 1) (v := w') ((b4 fb (by omega) ((hc.w.keep (fun y k hy => f2 y (wf1 y k hy)) : SlF opL 5 S2 (fb + 1) w (allOps bs k)).av (by omega))).trans hfb2) (by simp) (SlF.one b2).1 (SlF.one b2).2
      have e1 : (0 : Nat) + 1 = 1 := rfl
      rw [e1] at a2
      rw [d1] at a2
      cases a2
      rw [d4 S1.n (by omega), this]; exact hs2
    have hn4 : S2.n ≤ S4.n := a3
    refine m_wf fun wf4 => m_seq (m_reg ?_)
    rw [reg9_19]
    simp (decide := true) only [FT.get_set, FT.setL, faS_ptr, nilS_ptr, nilS_func, nilS_yield, pickS_bool, ldS_ptr, list_cells, list_ro, partS_none, lenSl_of, lenStr_of, cvInt_of, aminmax_max, aminmax_min, abin_add, abin_sub, abin_mul, abin_eql, abin_neq, abin_lss, abin_leq, abin_gtr, abin_geq, aunary_not, aextract, Option.some.injEq, Prod.mk.injEq, Value.bool.injEq, exists_eq_left', exists_and_left, and_assoc, decide_eq_true_eq, decide_eq_false_iff_not, if_true, if_false, Nat.zero_add, Nat.add_zero, Option.bind_some, true_and, and_true, forall_const, true_implies, Bool.not_eq_true, Bool.false_eq_true, false_implies, ite_self, Nat.mul_one, t60, list_of hbx4, partS_blk]
    refine callM_wf_post (tail22 (by omega) (hok.2.2 b hbm).2 fun v S5 hv f5 wf5 => ?_)
    simp (decide := true) only [FT.get_set, FT.setL, faS_ptr, nilS_ptr, nilS_func, nilS_yield, pickS_bool, ldS_ptr, list_cells, list_ro, partS_none, lenSl_of, lenStr_of, cvInt_of, aminmax_max, aminmax_min, abin_add, abin_sub, abin_mul, abin_eql, abin_neq, abin_lss, abin_leq, abin_gtr, abin_geq, aunary_not, aextract, Option.some.injEq, Prod.mk.injEq, Value.bool.injEq, exists_eq_left', exists_and_left, and_assoc, decide_eq_true_eq, decide_eq_false_iff_not, if_true, if_false, Nat.zero_add, Nat.add_zero, Option.bind_some, true_and, and_true, forall_const, true_implies, Bool.not_eq_true, Bool.false_eq_true, false_implies, ite_self, Nat.mul_one, hv.lenSl]
    have hc5 := fun T' h2 h5 h9 h58 h59 => (hs4 T rfl rfl rfl rfl rfl).keep (T' := T') wf4 f5.2 f5.1 h2 h5 h9 h58 h59
    have hw4 := (hs4 T rfl rfl rfl rfl rfl).w
    refine MWp.mono (inner9 (S0 := S0) (rr := rr) (gv := gv) (C := S4.n) (tv := v) (fb := fb) hlt hb (hok.2.2 b hbm).2 hn hp (by omega) ⟨0, w', by omega, ?_, hv, fun y hy => ?_, by simp [FT.get_set, FT.setL, faS_ptr, nilS_ptr, nilS_func, nilS_yield, pickS_bool, ldS_ptr, list_cells, list_ro, partS_none, lenSl_of, lenStr_of, cvInt_of, aminmax_max, aminmax_min, abin_add, abin_sub, abin_mul, abin_eql, abin_neq, abin_lss, abin_leq, abin_gtr, abin_geq, aunary_not, aextract, t60], by simp [FT.get_set, FT.setL, faS_ptr, nilS_ptr, nilS_func, nilS_yield, pickS_bool, ldS_ptr, list_cells, list_ro, partS_none, lenSl_of, lenStr_of, cvInt_of, aminmax_max, aminmax_min, abin_add, abin_sub, abin_mul, abin_eql, abin_neq, abin_lss, abin_leq, abin_gtr, abin_geq, aunary_not, aextract], by simp [FT.get_set, FT.setL, faS_ptr, nilS_ptr, nilS_func, nilS_yield, pickS_bool, ldS_ptr, list_cells, list_ro, partS_none, lenSl_of, lenStr_of, cvInt_of, aminmax_max, aminmax_min, abin_add, abin_sub, abin_mul, abin_eql, abin_neq, abin_lss, abin_leq, abin_gtr, abin_geq, aunary_not, aextract], by simp [FT.get_set, FT.setL, faS_ptr, nilS_ptr, nilS_func, nilS_yield, pickS_bool, ldS_ptr, list_cells, list_ro, partS_none, lenSl_of, lenStr_of, cvInt_of, aminmax_max, aminmax_min, abin_add, abin_sub, abin_mul, abin_eql, abin_neq, abin_lss, abin_leq, abin_gtr, abin_geq, aunary_not, aextract]⟩) ?_
    · rw [List.take_zero, List.map_nil, List.append_nil]
      exact hc5 _ (by simp [FT.get_set, FT.setL, faS_ptr, nilS_ptr, nilS_func, nilS_yield, pickS_bool, ldS_ptr, list_cells, list_ro, partS_none, lenSl_of, lenStr_of, cvInt_of, aminmax_max, aminmax_min, abin_add, abin_sub, abin_mul, abin_eql, abin_neq, abin_lss, abin_leq, abin_gtr, abin_geq, aunary_not, aextract]) (by simp [FT.get_set, FT.setL, faS_ptr, nilS_ptr, nilS_func, nilS_yield, pickS_bool, ldS_ptr, list_cells, list_ro, partS_none, lenSl_of, lenStr_of, cvInt_of, aminmax_max, aminmax_min, abin_add, abin_sub, abin_mul, abin_eql, abin_neq, abin_lss, abin_leq, abin_gtr, abin_geq, aunary_not, aextract]) (by simp [FT.get_set, FT.setL, faS_ptr, nilS_ptr, nilS_func, nilS_yield, pickS_bool, ldS_ptr, list_cells, list_ro, partS_none, lenSl_of, lenStr_of, cvInt_of, aminmax_max, aminmax_min, abin_add, abin_sub, abin_mul, abin_eql, abin_neq, abin_lss, abin_leq, abin_gtr, abin_geq, aunary_not, aextract]) (by simp [FT.get_set, FT.setL, faS_ptr, nilS_ptr, nilS_func, nilS_yield, pickS_bool, ldS_ptr, list_cells, list_ro, partS_none, lenSl_of, lenStr_of, cvInt_of, aminmax_max, aminmax_min, abin_add, abin_sub, abin_mul, abin_eql, abin_neq, abin_lss, abin_leq, abin_gtr, abin_geq, aunary_not, aextract]) (by simp [FT.get_set, FT.setL, faS_ptr, nilS_ptr, nilS_func, nilS_yield, pickS_bool, ldS_ptr, list_cells, list_ro, partS_none, lenSl_of, lenStr_of, cvInt_of, aminmax_max, aminmax_min, abin_add, abin_sub, abin_mul, abin_eql, abin_neq, abin_lss, abin_leq, abin_gtr, abin_geq, aunary_not, aextract])
    · refine hw4.avN wf4 ?_
      refine Classical.byContradiction fun h => hy (hv.av (by omega))
    rintro _ T6 S6 ⟨rfl, t60, w6, hc6⟩
    simp only
    refine m_reg ?_
    rw [reg9_26]
    have hw : IntKind.i64.wrap ((k : Int) + 1) = ((k + 1 : Nat) : Int) := by rw [wrap_i64 (by omega) (by omega)]; rfl
    simp (decide := true) only [FT.get_set, FT.setL, faS_ptr, nilS_ptr, nilS_func, nilS_yield, pickS_bool, ldS_ptr, list_cells, list_ro, partS_none, lenSl_of, lenStr_of, cvInt_of, aminmax_max, aminmax_min, abin_add, abin_sub, abin_mul, abin_eql, abin_neq, abin_lss, abin_leq, abin_gtr, abin_geq, aunary_not, aextract, Option.some.injEq, Prod.mk.injEq, Value.bool.injEq, exists_eq_left', exists_and_left, and_assoc, decide_eq_true_eq, decide_eq_false_iff_not, if_true, if_false, Nat.zero_add, Nat.add_zero, Option.bind_some, true_and, and_true, forall_const, true_implies, Bool.not_eq_true, Bool.false_eq_true, false_implies, ite_self, Nat.mul_one, t60, hw]
    exact ⟨m - 1, by omega, k + 1, w6, by omega, ⟨hc6.old, hc6.fb1, hc6.fb2, hc6.rb, hc6.bb, hc6.fbc, hc6.w, by simp [FT.get_set, FT.setL, faS_ptr, nilS_ptr, nilS_func, nilS_yield, pickS_bool, ldS_ptr, list_cells, list_ro, partS_none, lenSl_of, lenStr_of, cvInt_of, aminmax_max, aminmax_min, abin_add, abin_sub, abin_mul, abin_eql, abin_neq, abin_lss, abin_leq, abin_gtr, abin_geq, aunary_not, aextract, hc6.t2], by simp [FT.get_set, FT.setL, faS_ptr, nilS_ptr, nilS_func, nilS_yield, pickS_bool, ldS_ptr, list_cells, list_ro, partS_none, lenSl_of, lenStr_of, cvInt_of, aminmax_max, aminmax_min, abin_add, abin_sub, abin_mul, abin_eql, abin_neq, abin_lss, abin_leq, abin_gtr, abin_geq, aunary_not, aextract, hc6.t5], by simp [FT.get_set, FT.setL, faS_ptr, nilS_ptr, nilS_func, nilS_yield, pickS_bool, ldS_ptr, list_cells, list_ro, partS_none, lenSl_of, lenStr_of, cvInt_of, aminmax_max, aminmax_min, abin_add, abin_sub, abin_mul, abin_eql, abin_neq, abin_lss, abin_leq, abin_gtr, abin_geq, aunary_not, aextract, hc6.t9], by simp [FT.get_set, FT.setL, faS_ptr, nilS_ptr, nilS_func, nilS_yield, pickS_bool, ldS_ptr, list_cells, list_ro, partS_none, lenSl_of, lenStr_of, cvInt_of, aminmax_max, aminmax_min, abin_add, abin_sub, abin_mul, abin_eql, abin_neq, abin_lss, abin_leq, abin_gtr, abin_geq, aunary_not, aextract, hc6.t58], by simp [FT.get_set, FT.setL, faS_ptr, nilS_ptr, nilS_func, nilS_yield, pickS_bool, ldS_ptr, list_cells, list_ro, partS_none, lenSl_of, lenStr_of, cvInt_of, aminmax_max, aminmax_min, abin_add, abin_sub, abin_mul, abin_eql, abin_neq, abin_lss, abin_leq, abin_gtr, abin_geq, aunary_not, aextract, hc6.t59]⟩, by simp [FT.get_set, FT.setL, faS_ptr, nilS_ptr, nilS_func, nilS_yield, pickS_bool, ldS_ptr, list_cells, list_ro, partS_none, lenSl_of, lenStr_of, cvInt_of, aminmax_max, aminmax_min, abin_add, abin_sub, abin_mul, abin_eql, abin_neq, abin_lss, abin_leq, abin_gtr, abin_geq, aunary_not, aextract]⟩
  · have hlt : ¬ k < bs.length := by have := of_decide_eq_false hlt; omega
    have hkn : k = bs.length := by omega
    refine m_exit ?_
    simp only [if_true]
    have hc' := hc.keep (T' := T.set (.bool (decide ((k : Int) < bs.length))) 61) wf1 (fun _ _ => rfl) (Nat.le_refl _) (by simp [FT.get_set, FT.setL, faS_ptr, nilS_ptr, nilS_func, nilS_yield, pickS_bool, ldS_ptr, list_cells, list_ro, partS_none, lenSl_of, lenStr_of, cvInt_of, aminmax_max, aminmax_min, abin_add, abin_sub, abin_mul, abin_eql, abin_neq, abin_lss, abin_leq, abin_gtr, abin_geq, aunary_not, aextract]) (by simp [FT.get_set, FT.setL, faS_ptr, nilS_ptr, nilS_func, nilS_yield, pickS_bool, ldS_ptr, list_cells, list_ro, partS_none, lenSl_of, lenStr_of, cvInt_of, aminmax_max, aminmax_min, abin_add, abin_sub, abin_mul, abin_eql, abin_neq, abin_lss, abin_leq, abin_gtr, abin_geq, aunary_not, aextract]) (by simp [FT.get_set, FT.setL, faS_ptr, nilS_ptr, nilS_func, nilS_yield, pickS_bool, ldS_ptr, list_cells, list_ro, partS_none, lenSl_of, lenStr_of, cvInt_of, aminmax_max, aminmax_min, abin_add, abin_sub, abin_mul, abin_eql, abin_neq, abin_lss, abin_leq, abin_gtr, abin_geq, aunary_not, aextract]) (by simp [FT.get_set, FT.setL, faS_ptr, nilS_ptr, nilS_func, nilS_yield, pickS_bool, ldS_ptr, list_cells, list_ro, partS_none, lenSl_of, lenStr_of, cvInt_of, aminmax_max, aminmax_min, abin_add, abin_sub, abin_mul, abin_eql, abin_neq, abin_lss, abin_leq, abin_gtr, abin_geq, aunary_not, aextract]) (by simp [FT.get_set, FT.setL, faS_ptr, nilS_ptr, nilS_func, nilS_yield, pickS_bool, ldS_ptr, list_cells, list_ro, partS_none, lenSl_of, lenStr_of, cvInt_of, aminmax_max, aminmax_min, abin_add, abin_sub, abin_mul, abin_eql, abin_neq, abin_lss, abin_leq, abin_gtr, abin_geq, aunary_not, aextract])
    rw [hkn] at hc'
    first | exact ⟨rfl, w, by rw [hkn]; exact hc'⟩ | exact ⟨w, by rw [hkn]; exact hc'⟩
/-- what Fn tells -/
def ToldF (bs : List Blk) (rr : Int) (S S' : MS) (v : Value) : Prop :=
  Old S S' ∧ ((¬ okG bs ∧ v = .tuple #[.agg #[.int .i64 0, .slice none 0 0], .int .i64 100]) ∨ (okG bs ∧ ∃ w, SlF opL 5 S' S.n w (allOps bs bs.length) ∧ v = .tuple #[.agg #[.int .i64 rr, w], .int .i64 0]))

theorem fn9 {S : MS} {rr : Int} {gv : Value} {bs : List Blk} (hg : Blks S gv bs) (hp : pos bs bs.length ≤ 1000000) : CallM Try.prog O 9 [fnV rr gv] S fun v S' => ToldF bs rr S S' v := by
  refine callM_wf fun wf => ?_
  refine callM_body (fnIs is9 body9 res9) (O_none (by decide)) (by simp) ?_
  refine m_seq (m_reg ?_)
  rw [reg9_0]
  simp (decide := true) only [FT.get_set, FT.setL, faS_ptr, nilS_ptr, nilS_func, nilS_yield, pickS_bool, ldS_ptr, list_cells, list_ro, partS_none, lenSl_of, lenStr_of, cvInt_of, aminmax_max, aminmax_min, abin_add, abin_sub, abin_mul, abin_eql, abin_neq, abin_lss, abin_leq, abin_gtr, abin_geq, aunary_not, aextract, Option.some.injEq, Prod.mk.injEq, Value.bool.injEq, exists_eq_left', exists_and_left, and_assoc, decide_eq_true_eq, decide_eq_false_iff_not, if_true, if_false, Nat.zero_add, Nat.add_zero, Option.bind_some, true_and, and_true, forall_const, true_implies, Bool.not_eq_true, Bool.false_eq_true, false_implies, ite_self, Nat.mul_one, fnV_cells rr hg.one, ptrTo, fresh_n]
  have f1 : Old S ((S.fresh [.int .i64 rr, gv] 0).fresh [.int .i64 0, .slice none 0 0] 0) := ⟨by simp only [fresh_n]; omega, fun y hy => by rw [fresh_old _ _ _ (by simp only [fresh_n]; omega), fresh_old _ _ _ (by omega)]⟩
  have hgb : ((S.fresh [.int .i64 rr, gv] 0).fresh [.int .i64 0, .slice none 0 0] 0).m S.n = some (.cells [.int .i64 rr, gv] 0) := by rw [fresh_old _ _ _ (by simp only [fresh_n]; omega), fresh_at]
  have hrb : ((S.fresh [.int .i64 rr, gv] 0).fresh [.int .i64 0, .slice none 0 0] 0).m (S.n + 1) = some (.cells [.int .i64 0, .slice none 0 0] 0) := fresh_at (S.fresh [.int .i64 rr, gv] 0) _ 0
  have bad : ∀ (T' : FT) (S' : MS), ¬ okG bs → Old S S' → S'.m (S.n + 1) = some (.cells [.int .i64 0, .slice none 0 0] 0) → T'.get 2 = .pointer (some ⟨S.n + 1, 0, none⟩) → T'.get 3 = .int .i64 100 → ((match AExit.ret with | .exit _ => False | _ => True) ∧ ∃ vs, resM Try.prog T' S' [.cell 2 29, .tmp 3] = some vs ∧ ToldF bs rr S S' (oneOrTuple vs)) := by
    intro T' S' hno hold hb t2 t3
    simp [resM, mload29, t2, t3, ldS_ptr, list_of hb, list_cells, partS_two, oneOrTuple]
    exact ⟨hold, .inl ⟨hno, rfl⟩⟩
  refine m_seq (m_reg ?_)
  rw [reg9_1]
  simp (decide := true) only [FT.get_set, FT.setL, faS_ptr, nilS_ptr, nilS_func, nilS_yield, pickS_bool, ldS_ptr, list_cells, list_ro, partS_none, lenSl_of, lenStr_of, cvInt_of, aminmax_max, aminmax_min, abin_add, abin_sub, abin_mul, abin_eql, abin_neq, abin_lss, abin_leq, abin_gtr, abin_geq, aunary_not, aextract, Option.some.injEq, Prod.mk.injEq, Value.bool.injEq, exists_eq_left', exists_and_left, and_assoc, decide_eq_true_eq, decide_eq_false_iff_not, if_true, if_false, Nat.zero_add, Nat.add_zero, Option.bind_some, true_and, and_true, forall_const, true_implies, Bool.not_eq_true, Bool.false_eq_true, false_implies, ite_self, Nat.mul_one, list_of hgb, List.getElem?_cons_zero, List.getElem?_cons_succ, hg.len]
  have stop : ∀ (T : FT), ¬ okG bs → T.get 22 = .bool true → T.get 2 = .pointer (some ⟨S.n + 1, 0, none⟩) → MWp Try.prog O 97 (.cond (.tmp 22) (.seq (.region 3 (ro 9 3) false) .ret) .skip) T ((S.fresh [.int .i64 rr, gv] 0).fresh [.int .i64 0, .slice none 0 0] 0) (fun x T' S' => x = .ret ∧ (¬ okG bs ∧ Old S S' ∧ S'.m (S.n + 1) = some (.cells [.int .i64 0, .slice none 0 0] 0) ∧ T'.get 2 = .pointer (some ⟨S.n + 1, 0, none⟩) ∧ T'.get 3 = .int .i64 100)) := by
    intro T hno h t2
    refine m_cond (t := true) h (fun _ => ?_) (fun h => by cases h)
    refine m_seq (m_reg ?_)
    rw [reg9_3]
    obtain ⟨S4, u1, u2, u3, u4⟩ := st_all (n := 2) (cs := #[.int .i64 0, .slice none 0 0]) hrb rfl rfl rfl
    have hbd : bdS (fun i => [(0, 1), (1, 1)][i]?) [.int .i64 0, .slice none 0 0] [] = some (.agg #[.int .i64 0, .slice none 0 0]) := rfl
    simp (decide := true) only [FT.get_set, FT.setL, faS_ptr, nilS_ptr, nilS_func, nilS_yield, pickS_bool, ldS_ptr, list_cells, list_ro, partS_none, lenSl_of, lenStr_of, cvInt_of, aminmax_max, aminmax_min, abin_add, abin_sub, abin_mul, abin_eql, abin_neq, abin_lss, abin_leq, abin_gtr, abin_geq, aunary_not, aextract, Option.some.injEq, Prod.mk.injEq, Value.bool.injEq, exists_eq_left', exists_and_left, and_assoc, decide_eq_true_eq, decide_eq_false_iff_not, if_true, if_false, Nat.zero_add, Nat.add_zero, Option.bind_some, true_and, and_true, forall_const, true_implies, Bool.not_eq_true, Bool.false_eq_true, false_implies, ite_self, Nat.mul_one, t2, hbd]
    exact ⟨S4, u1, m_ret ⟨rfl, hno, ⟨by rw [u3]; exact f1.1, fun y hy => by rw [u4 y (by omega)]; exact f1.2 y hy⟩, u2, by simp [FT.get_set, FT.setL, faS_ptr, nilS_ptr, nilS_func, nilS_yield, pickS_bool, ldS_ptr, list_cells, list_ro, partS_none, lenSl_of, lenStr_of, cvInt_of, aminmax_max, aminmax_min, abin_add, abin_sub, abin_mul, abin_eql, abin_neq, abin_lss, abin_leq, abin_gtr, abin_geq, aunary_not, aextract, t2], by simp [FT.get_set, FT.setL, faS_ptr, nilS_ptr, nilS_func, nilS_yield, pickS_bool, ldS_ptr, list_cells, list_ro, partS_none, lenSl_of, lenStr_of, cvInt_of, aminmax_max, aminmax_min, abin_add, abin_sub, abin_mul, abin_eql, abin_neq, abin_lss, abin_leq, abin_gtr, abin_geq, aunary_not, aextract]⟩⟩
  refine m_seq (m_seq (m_reg ?_))
  rw [reg9_2]
  simp (decide := true) only [FT.get_set, FT.setL, faS_ptr, nilS_ptr, nilS_func, nilS_yield, pickS_bool, ldS_ptr, list_cells, list_ro, partS_none, lenSl_of, lenStr_of, cvInt_of, aminmax_max, aminmax_min, abin_add, abin_sub, abin_mul, abin_eql, abin_neq, abin_lss, abin_leq, abin_gtr, abin_geq, aunary_not, aextract, Option.some.injEq, Prod.mk.injEq, Value.bool.injEq, exists_eq_left', exists_and_left, and_assoc, decide_eq_true_eq, decide_eq_false_iff_not, if_true, if_false, Nat.zero_add, Nat.add_zero, Option.bind_some, true_and, and_true, forall_const, true_implies, Bool.not_eq_true, Bool.false_eq_true, false_implies, ite_self, Nat.mul_one, ]
  refine ⟨fun hlt => ?_, fun hge => ?_⟩
  · have hno : ¬ okG bs := fun h => by have := h.1; omega
    refine MWp.mono (stop _ hno ?_ ?_) ?_
    · have : (bs.length : Int) < 1 := hlt
      simp [FT.get_set, FT.setL, faS_ptr, nilS_ptr, nilS_func, nilS_yield, pickS_bool, ldS_ptr, list_cells, list_ro, partS_none, lenSl_of, lenStr_of, cvInt_of, aminmax_max, aminmax_min, abin_add, abin_sub, abin_mul, abin_eql, abin_neq, abin_lss, abin_leq, abin_gtr, abin_geq, aunary_not, aextract, this]
    · simp [FT.get_set, FT.setL, faS_ptr, nilS_ptr, nilS_func, nilS_yield, pickS_bool, ldS_ptr, list_cells, list_ro, partS_none, lenSl_of, lenStr_of, cvInt_of, aminmax_max, aminmax_min, abin_add, abin_sub, abin_mul, abin_eql, abin_neq, abin_lss, abin_leq, abin_gtr, abin_geq, aunary_not, aextract]
    · rintro _ T' S' ⟨rfl, h0, h1, h2, h3, h4⟩
      exact bad _ _ h0 h1 h2 h3 h4
  have hge : ¬ (bs.length : Int) < 1 := hge
  by_cases hbig : (bs.length : Int) > 2000
  · have hno : ¬ okG bs := fun h => by have := h.2.1; omega
    refine MWp.mono (stop _ hno ?_ ?_) ?_
    · simp [FT.get_set, FT.setL, faS_ptr, nilS_ptr, nilS_func, nilS_yield, pickS_bool, ldS_ptr, list_cells, list_ro, partS_none, lenSl_of, lenStr_of, cvInt_of, aminmax_max, aminmax_min, abin_add, abin_sub, abin_mul, abin_eql, abin_neq, abin_lss, abin_leq, abin_gtr, abin_geq, aunary_not, aextract, hge, hbig]
    · simp [FT.get_set, FT.setL, faS_ptr, nilS_ptr, nilS_func, nilS_yield, pickS_bool, ldS_ptr, list_cells, list_ro, partS_none, lenSl_of, lenStr_of, cvInt_of, aminmax_max, aminmax_min, abin_add, abin_sub, abin_mul, abin_eql, abin_neq, abin_lss, abin_leq, abin_gtr, abin_geq, aunary_not, aextract]
    · rintro _ T' S' ⟨rfl, h0, h1, h2, h3, h4⟩
      exact bad _ _ h0 h1 h2 h3 h4
  have hn : bs.length ≤ 2000 := by omega
  refine m_cond (t := false) ?_ (fun h => by cases h) (fun _ => ?_)
  · simp [evalT, FT.get_set, FT.setL, faS_ptr, nilS_ptr, nilS_func, nilS_yield, pickS_bool, ldS_ptr, list_cells, list_ro, partS_none, lenSl_of, lenStr_of, cvInt_of, aminmax_max, aminmax_min, abin_add, abin_sub, abin_mul, abin_eql, abin_neq, abin_lss, abin_leq, abin_gtr, abin_geq, aunary_not, aextract, hge, hbig]
  refine m_skip ?_
  simp only
  refine m_seq (m_reg ?_)
  rw [reg9_4]
  simp (decide := true) only [FT.get_set, FT.setL, faS_ptr, nilS_ptr, nilS_func, nilS_yield, pickS_bool, ldS_ptr, list_cells, list_ro, partS_none, lenSl_of, lenStr_of, cvInt_of, aminmax_max, aminmax_min, abin_add, abin_sub, abin_mul, abin_eql, abin_neq, abin_lss, abin_leq, abin_gtr, abin_geq, aunary_not, aextract, Option.some.injEq, Prod.mk.injEq, Value.bool.injEq, exists_eq_left', exists_and_left, and_assoc, decide_eq_true_eq, decide_eq_false_iff_not, if_true, if_false, Nat.zero_add, Nat.add_zero, Option.bind_some, true_and, and_true, forall_const, true_implies, Bool.not_eq_true, Bool.false_eq_true, false_implies, ite_self, Nat.mul_one, msS_of (n := bs.length) ((S.fresh [.int .i64 rr, gv] 0).fresh [.int .i64 0, .slice none 0 0] 0) 1 8 [.int .i64 0] .i64 .i64 (by omega) (by omega)]
  have hz : zeros [.int .i64 0] bs.length = (bgL bs bs.length 0).map iv := by rw [zeros_one, bg_zero, List.map_replicate]; rfl
  rw [hz]
  refine m_seq (m_reg ?_)
  rw [reg9_5]
  have g1 : ∀ y, y < S.n + 2 → (((S.fresh [.int .i64 rr, gv] 0).fresh [.int .i64 0, .slice none 0 0] 0).fresh ((bgL bs bs.length 0).map iv) 1).m y = ((S.fresh [.int .i64 rr, gv] 0).fresh [.int .i64 0, .slice none 0 0] 0).m y := fun y hy => fresh_old _ _ _ (by simp only [fresh_n]; omega)
  have hbb : (((S.fresh [.int .i64 rr, gv] 0).fresh [.int .i64 0, .slice none 0 0] 0).fresh ((bgL bs bs.length 0).map iv) 1).m (S.n + 2) = some (.cells ((bgL bs bs.length 0).map iv) 1) := fresh_at ((S.fresh [.int .i64 rr, gv] 0).fresh [.int .i64 0, .slice none 0 0] 0) _ 1
  have hold3 : Old S (((S.fresh [.int .i64 rr, gv] 0).fresh [.int .i64 0, .slice none 0 0] 0).fresh ((bgL bs bs.length 0).map iv) 1) := ⟨by simp only [fresh_n]; omega, fun y hy => by rw [g1 y (by omega)]; exact f1.2 y hy⟩
  refine m_seq (m_seq (m_reg ?_))
  rw [reg9_6]
  simp (decide := true) only [FT.get_set, FT.setL, faS_ptr, nilS_ptr, nilS_func, nilS_yield, pickS_bool, ldS_ptr, list_cells, list_ro, partS_none, lenSl_of, lenStr_of, cvInt_of, aminmax_max, aminmax_min, abin_add, abin_sub, abin_mul, abin_eql, abin_neq, abin_lss, abin_leq, abin_gtr, abin_geq, aunary_not, aextract, Option.some.injEq, Prod.mk.injEq, Value.bool.injEq, exists_eq_left', exists_and_left, and_assoc, decide_eq_true_eq, decide_eq_false_iff_not, if_true, if_false, Nat.zero_add, Nat.add_zero, Option.bind_some, true_and, and_true, forall_const, true_implies, Bool.not_eq_true, Bool.false_eq_true, false_implies, ite_self, Nat.mul_one, list_of ((g1 S.n (by omega)).trans hgb), List.getElem?_cons_zero, List.getElem?_cons_succ, hg.len]
  refine MWp.mono (first9 (S0 := S) (rr := rr) (gv := gv) hg wf hn hp ⟨0, by omega, fun i b hi => absurd hi (by omega), hold3, by simp only [fresh_n]; omega, (g1 _ (by omega)).trans hgb, (g1 _ (by omega)).trans hrb, hbb, by simp [FT.get_set, FT.setL, faS_ptr, nilS_ptr, nilS_func, nilS_yield, pickS_bool, ldS_ptr, list_cells, list_ro, partS_none, lenSl_of, lenStr_of, cvInt_of, aminmax_max, aminmax_min, abin_add, abin_sub, abin_mul, abin_eql, abin_neq, abin_lss, abin_leq, abin_gtr, abin_geq, aunary_not, aextract], by simp [FT.get_set, FT.setL, faS_ptr, nilS_ptr, nilS_func, nilS_yield, pickS_bool, ldS_ptr, list_cells, list_ro, partS_none, lenSl_of, lenStr_of, cvInt_of, aminmax_max, aminmax_min, abin_add, abin_sub, abin_mul, abin_eql, abin_neq, abin_lss, abin_leq, abin_gtr, abin_geq, aunary_not, aextract], by simp [FT.get_set, FT.setL, faS_ptr, nilS_ptr, nilS_func, nilS_yield, pickS_bool, ldS_ptr, list_cells, list_ro, partS_none, lenSl_of, lenStr_of, cvInt_of, aminmax_max, aminmax_min, abin_add, abin_sub, abin_mul, abin_eql, abin_neq, abin_lss, abin_leq, abin_gtr, abin_geq, aunary_not, aextract], by simp [FT.get_set, FT.setL, faS_ptr, nilS_ptr, nilS_func, nilS_yield, pickS_bool, ldS_ptr, list_cells, list_ro, partS_none, lenSl_of, lenStr_of, cvInt_of, aminmax_max, aminmax_min, abin_add, abin_sub, abin_mul, abin_eql, abin_neq, abin_lss, abin_leq, abin_gtr, abin_geq, aunary_not, aextract, fresh_n], by simp [FT.get_set, FT.setL, faS_ptr, nilS_ptr, nilS_func, nilS_yield, pickS_bool, ldS_ptr, list_cells, list_ro, partS_none, lenSl_of, lenStr_of, cvInt_of, aminmax_max, aminmax_min, abin_add, abin_sub, abin_mul, abin_eql, abin_neq, abin_lss, abin_leq, abin_gtr, abin_geq, aunary_not, aextract]; rfl, by simp [FT.get_set, FT.setL, faS_ptr, nilS_ptr, nilS_func, nilS_yield, pickS_bool, ldS_ptr, list_cells, list_ro, partS_none, lenSl_of, lenStr_of, cvInt_of, aminmax_max, aminmax_min, abin_add, abin_sub, abin_mul, abin_eql, abin_neq, abin_lss, abin_leq, abin_gtr, abin_geq, aunary_not, aextract], by simp [FT.get_set, FT.setL, faS_ptr, nilS_ptr, nilS_func, nilS_yield, pickS_bool, ldS_ptr, list_cells, list_ro, partS_none, lenSl_of, lenStr_of, cvInt_of, aminmax_max, aminmax_min, abin_add, abin_sub, abin_mul, abin_eql, abin_neq, abin_lss, abin_leq, abin_gtr, abin_geq, aunary_not, aextract], by simp [FT.get_set, FT.setL, faS_ptr, nilS_ptr, nilS_func, nilS_yield, pickS_bool, ldS_ptr, list_cells, list_ro, partS_none, lenSl_of, lenStr_of, cvInt_of, aminmax_max, aminmax_min, abin_add, abin_sub, abin_mul, abin_eql, abin_neq, abin_lss, abin_leq, abin_gtr, abin_geq, aunary_not, aextract]⟩) ?_
  rintro x T2 S2 (⟨rfl, ⟨b, hb, hnb⟩, h1, h2, h3, h4⟩ | ⟨rfl, k, hk, hall, hold, hn3, hgb2, hrb2, hbb2, t1, t2, t4, t5, t6, t27, t28, t29⟩)
  · simp only
    exact bad _ _ (fun h => hnb (h.2.2 b hb)) h1 h2 h3 h4
  simp only
  have hkn : k = bs.length := by omega
  have hok : okG bs := ⟨by omega, hn, fun b hb => by
    obtain ⟨i, hi⟩ := List.getElem?_of_mem hb
    exact hall i b (by have := (List.getElem?_eq_some_iff.1 hi).1; omega) hi⟩
  rw [hkn] at hbb2
  refine m_wf fun wf2 => ?_
  refine m_seq (m_reg ?_)
  rw [reg9_14]
  have hbd : bdS (fun i => [(0, 1), (1, 1)][i]?) [.int .i64 0, .slice none 0 0] [(0, .int .i64 rr)] = some (.agg #[.int .i64 rr, .slice none 0 0]) := rfl
  obtain ⟨S4, u1, u2, u3, u4⟩ := st_all (n := 2) (cs := #[.int .i64 rr, .slice none 0 0]) (fresh_at S2 [.int .i64 0, .slice none 0 0] 0) rfl rfl rfl
  simp (decide := true) only [FT.get_set, FT.setL, faS_ptr, nilS_ptr, nilS_func, nilS_yield, pickS_bool, ldS_ptr, list_cells, list_ro, partS_none, lenSl_of, lenStr_of, cvInt_of, aminmax_max, aminmax_min, abin_add, abin_sub, abin_mul, abin_eql, abin_neq, abin_lss, abin_leq, abin_gtr, abin_geq, aunary_not, aextract, Option.some.injEq, Prod.mk.injEq, Value.bool.injEq, exists_eq_left', exists_and_left, and_assoc, decide_eq_true_eq, decide_eq_false_iff_not, if_true, if_false, Nat.zero_add, Nat.add_zero, Option.bind_some, true_and, and_true, forall_const, true_implies, Bool.not_eq_true, Bool.false_eq_true, false_implies, ite_self, Nat.mul_one, t1, list_of hgb2, List.getElem?_cons_zero, hbd, ptrTo]
  refine ⟨S4, u1, ?_⟩
  have hs4n : S4.n = S2.n + 1 := u3
  have f4 : ∀ y, y < S2.n → S4.m y = S2.m y := fun y hy => by rw [u4 y (by omega), fresh_old _ _ _ (by omega)]
  refine m_seq (m_seq (m_reg ?_))
  rw [reg9_15]
  simp (decide := true) only [FT.get_set, FT.setL, faS_ptr, nilS_ptr, nilS_func, nilS_yield, pickS_bool, ldS_ptr, list_cells, list_ro, partS_none, lenSl_of, lenStr_of, cvInt_of, aminmax_max, aminmax_min, abin_add, abin_sub, abin_mul, abin_eql, abin_neq, abin_lss, abin_leq, abin_gtr, abin_geq, aunary_not, aextract, Option.some.injEq, Prod.mk.injEq, Value.bool.injEq, exists_eq_left', exists_and_left, and_assoc, decide_eq_true_eq, decide_eq_false_iff_not, if_true, if_false, Nat.zero_add, Nat.add_zero, Option.bind_some, true_and, and_true, forall_const, true_implies, Bool.not_eq_true, Bool.false_eq_true, false_implies, ite_self, Nat.mul_one, t1, list_of ((f4 S.n (by omega)).trans hgb2), List.getElem?_cons_zero, List.getElem?_cons_succ, hg.len]
  refine MWp.mono (second9 (S0 := S) (fb := S2.n) (rr := rr) (gv := gv) hok hg wf hp ⟨0, .slice none 0 0, by omega, ⟨hold.trans ⟨by omega, f4⟩, hn3, by omega, (f4 _ (by omega)).trans hrb2, (f4 _ (by omega)).trans hbb2, u2, .non, by simp [FT.get_set, FT.setL, faS_ptr, nilS_ptr, nilS_func, nilS_yield, pickS_bool, ldS_ptr, list_cells, list_ro, partS_none, lenSl_of, lenStr_of, cvInt_of, aminmax_max, aminmax_min, abin_add, abin_sub, abin_mul, abin_eql, abin_neq, abin_lss, abin_leq, abin_gtr, abin_geq, aunary_not, aextract, t2], by simp [FT.get_set, FT.setL, faS_ptr, nilS_ptr, nilS_func, nilS_yield, pickS_bool, ldS_ptr, list_cells, list_ro, partS_none, lenSl_of, lenStr_of, cvInt_of, aminmax_max, aminmax_min, abin_add, abin_sub, abin_mul, abin_eql, abin_neq, abin_lss, abin_leq, abin_gtr, abin_geq, aunary_not, aextract, t5], by simp [FT.get_set, FT.setL, faS_ptr, nilS_ptr, nilS_func, nilS_yield, pickS_bool, ldS_ptr, list_cells, list_ro, partS_none, lenSl_of, lenStr_of, cvInt_of, aminmax_max, aminmax_min, abin_add, abin_sub, abin_mul, abin_eql, abin_neq, abin_lss, abin_leq, abin_gtr, abin_geq, aunary_not, aextract], by simp [FT.get_set, FT.setL, faS_ptr, nilS_ptr, nilS_func, nilS_yield, pickS_bool, ldS_ptr, list_cells, list_ro, partS_none, lenSl_of, lenStr_of, cvInt_of, aminmax_max, aminmax_min, abin_add, abin_sub, abin_mul, abin_eql, abin_neq, abin_lss, abin_leq, abin_gtr, abin_geq, aunary_not, aextract], by simp [FT.get_set, FT.setL, faS_ptr, nilS_ptr, nilS_func, nilS_yield, pickS_bool, ldS_ptr, list_cells, list_ro, partS_none, lenSl_of, lenStr_of, cvInt_of, aminmax_max, aminmax_min, abin_add, abin_sub, abin_mul, abin_eql, abin_neq, abin_lss, abin_leq, abin_gtr, abin_geq, aunary_not, aextract]⟩, by simp [FT.get_set, FT.setL, faS_ptr, nilS_ptr, nilS_func, nilS_yield, pickS_bool, ldS_ptr, list_cells, list_ro, partS_none, lenSl_of, lenStr_of, cvInt_of, aminmax_max, aminmax_min, abin_add, abin_sub, abin_mul, abin_eql, abin_neq, abin_lss, abin_leq, abin_gtr, abin_geq, aunary_not, aextract]⟩) ?_
  rintro _ T5 S5 ⟨rfl, w, hc⟩
  simp only
  refine m_seq (m_reg ?_)
  rw [reg9_27]
  obtain ⟨S6, v1, v2, v3, v4⟩ := st_all (n := 2) (cs := #[.int .i64 rr, w]) hc.rb rfl rfl (by
    show ([.int .i64 rr, w] : List Value).all oneCell = true
    simp only [List.all_cons, (SlF.one hc.w).2]; rfl)
  have c1 := hc.fb1
  have c2 := hc.fb2
  have c3 := hc.old.1
  simp (decide := true) only [FT.get_set, FT.setL, faS_ptr, nilS_ptr, nilS_func, nilS_yield, pickS_bool, ldS_ptr, list_cells, list_ro, partS_none, lenSl_of, lenStr_of, cvInt_of, aminmax_max, aminmax_min, abin_add, abin_sub, abin_mul, abin_eql, abin_neq, abin_lss, abin_leq, abin_gtr, abin_geq, aunary_not, aextract, Option.some.injEq, Prod.mk.injEq, Value.bool.injEq, exists_eq_left', exists_and_left, and_assoc, decide_eq_true_eq, decide_eq_false_iff_not, if_true, if_false, Nat.zero_add, Nat.add_zero, Option.bind_some, true_and, and_true, forall_const, true_implies, Bool.not_eq_true, Bool.false_eq_true, false_implies, ite_self, Nat.mul_one, hc.t2, hc.t9, list_of hc.fbc, partS_two]
  refine ⟨S6, v1, m_ret ?_⟩
  simp [resM, mload29, FT.get_set, FT.setL, faS_ptr, nilS_ptr, nilS_func, nilS_yield, pickS_bool, ldS_ptr, list_cells, list_ro, partS_none, lenSl_of, lenStr_of, cvInt_of, aminmax_max, aminmax_min, abin_add, abin_sub, abin_mul, abin_eql, abin_neq, abin_lss, abin_leq, abin_gtr, abin_geq, aunary_not, aextract, hc.t2, list_of v2, partS_two, oneOrTuple]
  refine ⟨⟨by omega, fun y hy => by rw [v4 y (by omega)]; exact hc.old.2 y hy⟩, .inr ⟨hok, w, ?_, rfl⟩⟩
  refine (hc.w.keep1 fun y k hy _ => v4 y fun e => ?_).weaken (by omega)
  subst e
  exact hy (hc.w.av (by omega))
end Go.Proofs.Ytgkdmnfmfcdfmaa

