/-
  The walk through the journal's code: what its functions do to memory, part RnR2. Nothing is asked.
-/
import Derived.Test.YtmfmbadfgnhonaaRnR1
set_option linter.all false
namespace Go.Proofs.Ytmfmbadfgnhonaa
open Go Go.Ag
set_option linter.unusedVariables false
set_option maxRecDepth 100000

def zrs (sz k : Nat) : List (List UInt8) := List.replicate k (List.replicate sz 0)
theorem zrs_live (sz k : Nat) : liveN [] (zrs sz k) = 8 + k * (sz + 8) := by
  have : wsum (zrs sz k) = k * (sz + 8) := by
    unfold zrs
    induction k with
    | zero => simp [wsum]
    | succ k ih => rw [List.replicate_succ, wsum, ih, List.length_replicate, Nat.succ_mul]; omega
  unfold liveN; rw [this]; simp
theorem zrs_snoc (sz k : Nat) : zrs sz k ++ [List.replicate sz 0] = zrs sz (k + 1) := by
  unfold zrs; rw [List.replicate_succ']
/-- how many go in -/
def kmax (N sz : Nat) : Nat := (32 * N - 8) / (sz + 8)
theorem kmax_le {N sz k : Nat} (hN : 64 ≤ N) : 8 + k * (sz + 8) ≤ 32 * N ↔ k ≤ kmax N sz := by
  unfold kmax
  rw [Nat.le_div_iff_mul_le (by omega)]; omega
theorem kmax_small {N sz : Nat} (hN : N ≤ 120) (hs : 20 ≤ sz) : kmax N sz ≤ 137 := by
  unfold kmax
  have : (32 * N - 8) / (sz + 8) ≤ (32 * N - 8) / 28 := Nat.div_le_div_left (by omega) (by omega)
  omega

/-- while records go in -/
def RN (N sz wb d : Nat) (t1 t2 t10 t11 : Value) (m : Nat) (T : FT) (S : MS) : Prop := ∃ D c0 W j rv half k, k + m = kmax N sz + 1 ∧ k ≤ kmax N sz ∧ PJ S d D c0 W j rv half [] (zrs sz k) ∧ Runs D ∧ D.made.length = N ∧ D.ws.length ≤ wb + 300 * k ∧ T.get 1 = t1 ∧ T.get 2 = t2 ∧ T.get 7 = .pointer (some ⟨d, 0, none⟩) ∧ T.get 9 = .pointer (some ⟨j, 0, none⟩) ∧ T.get 10 = t10 ∧ T.get 11 = t11 ∧ T.get 12 = .int .i64 k

theorem inner3 {N sz wb d : Nat} {t2 t10 t11 : Value} (hN : 64 ≤ N ∧ N ≤ 120) (hs : 20 ≤ sz ∧ sz ≤ 400) (hwb : wb ≤ 400000) {T : FT} {S : MS} (h0 : RN N sz wb d (.int .i64 sz) t2 t10 t11 (kmax N sz + 1) T S) :
    MWp Try.prog O 116 (.block 2 (.loop (.seq (.seq (.region 16 (ro 3 16) false) (.cond (.tmp 66) .skip (.exit 2))) (.block 3 (.seq (.region 17 (ro 3 17) false) (.seq (.seq (.region 18 (ro 3 18) false) (.cond (.tmp 72) (.exit 2) .skip)) (.region 19 (ro 3 19) false))))))) T S
      fun x T' S' => x = .normal ∧ RN N sz wb d (.int .i64 sz) t2 t10 t11 1 T' S' ∧ T'.get 8 = .int .i64 192 := by
  refine m_block (m_loop (fun m T S' => RN N sz wb d (.int .i64 sz) t2 t10 t11 m T S') (kmax N sz + 1) h0 ?_)
  rintro m T S1 ⟨D, c0, W, j, rv, half, k, hk, hk2, hp, hr, hm, hws, t1, t2', t7, t9, t10', t11', t12⟩
  have hks := kmax_small hN.2 hs.1
  refine m_wf fun wf1 => m_seq (m_seq (m_reg ?_))
  rw [reg3_16]
  have hlt : (k : Int) < 2000 := by omega
  simp (decide := true) only [FT.get_set, FT.setL, faS_ptr, nilS_ptr, nilS_func, nilS_yield, pickS_bool, ldS_ptr, list_cells, list_ro, partS_none, lenSl_of, lenStr_of, cvInt_of, aminmax_max, aminmax_min, abin_add, abin_sub, abin_mul, abin_eql, abin_neq, abin_lss, abin_leq, abin_gtr, abin_geq, aunary_not, aextract, Option.some.injEq, Prod.mk.injEq, Value.bool.injEq, exists_eq_left', exists_and_left, and_assoc, decide_eq_true_eq, decide_eq_false_iff_not, if_true, if_false, Nat.zero_add, Nat.add_zero, Option.bind_some, true_and, and_true, forall_const, true_implies, Bool.not_eq_true, Bool.false_eq_true, false_implies, ite_self, Nat.mul_one, t12, hlt]
  refine m_cond (t := true) (by simp [evalT, FT.get_set, FT.setL, faS_ptr, nilS_ptr, nilS_func, nilS_yield, pickS_bool, ldS_ptr, list_cells, list_ro, partS_none, lenSl_of, lenStr_of, cvInt_of, aminmax_max, aminmax_min, abin_add, abin_sub, abin_mul, abin_eql, abin_neq, abin_lss, abin_leq, abin_gtr, abin_geq, aunary_not, aextract, hlt]) (fun _ => m_skip ?_) tf
  simp only
  refine m_block (m_seq (m_reg ?_))
  rw [reg3_17]
  have hms : msS S1 1 1 [.int .u8 0] (.int .i64 (sz : Int)) (.int .i64 (sz : Int)) = some (.slice (some ⟨S1.n, 0, none⟩) sz sz, S1.fresh (bL (List.replicate sz 0)) 1) := by
    have hz : zeros [.int .u8 0] sz = bL (List.replicate sz 0) := by rw [zeros_one, bL_rep]
    rw [← hz]; exact msS_of (n := sz) S1 1 1 [.int .u8 0] .i64 .i64 (by omega) (by omega)
  simp (decide := true) only [FT.get_set, FT.setL, faS_ptr, nilS_ptr, nilS_func, nilS_yield, pickS_bool, ldS_ptr, list_cells, list_ro, partS_none, lenSl_of, lenStr_of, cvInt_of, aminmax_max, aminmax_min, abin_add, abin_sub, abin_mul, abin_eql, abin_neq, abin_lss, abin_leq, abin_gtr, abin_geq, aunary_not, aextract, Option.some.injEq, Prod.mk.injEq, Value.bool.injEq, exists_eq_left', exists_and_left, and_assoc, decide_eq_true_eq, decide_eq_false_iff_not, if_true, if_false, Nat.zero_add, Nat.add_zero, Option.bind_some, true_and, and_true, forall_const, true_implies, Bool.not_eq_true, Bool.false_eq_true, false_implies, ite_self, Nat.mul_one, t1, t9, hms]
  have f2 := old_fresh S1 (bL (List.replicate sz 0)) 1
  have hrb : RB (S1.fresh (bL (List.replicate sz 0)) 1) (.slice (some ⟨S1.n, 0, none⟩) sz sz) (List.replicate sz 0) := by
    have hunk : (400 : Nat) < unk := by decide
    refine .inr (.inr ⟨S1.n, 0, sz, bL (List.replicate sz 0), by rw [List.length_replicate], list_of (fresh_at S1 _ 1), by rw [bL_len, List.length_replicate]; omega, ?_, by rw [List.length_replicate]; omega, .inl (by omega)⟩)
    rw [List.drop_zero, List.length_replicate]
    exact List.take_of_length_le (by rw [bL_len, List.length_replicate]; omega)
  have hp2 : PJ (S1.fresh (bL (List.replicate sz 0)) 1) d D c0 W j rv half [] (zrs sz k) := ⟨hp.is.old' wf1 f2, hp.hw.old wf1 f2, hp.jj.old f2, hp.says, hp.n, hp.live⟩
  refine hp2.append hr hrb ?_ (by rw [List.length_replicate]; omega) (by omega) (fun hfull => ?_) fun hfit S3 D3 rv3 g3 hp3 hr3 hw3 hm3 => ?_
  · rintro y ⟨o, n, c, e⟩
    cases e
    exact Fr.new hp.is wf1 hp.jj (Nat.le_refl _) (by rw [fresh_n]; omega)
  · -- full
    rw [zrs_snoc, zrs_live, hm] at hfull
    have hkk : k = kmax N sz := by
      have : ¬ k + 1 ≤ kmax N sz := fun h => by
        have := (kmax_le (N := N) (sz := sz) (k := k + 1) hN.1).2 h
        omega
      omega
    refine m_seq (m_seq (m_reg ?_))
    rw [reg3_18]
    have hne : ((192 : Int) != 0) = true := by decide
    simp (decide := true) only [FT.get_set, FT.setL, faS_ptr, nilS_ptr, nilS_func, nilS_yield, pickS_bool, ldS_ptr, list_cells, list_ro, partS_none, lenSl_of, lenStr_of, cvInt_of, aminmax_max, aminmax_min, abin_add, abin_sub, abin_mul, abin_eql, abin_neq, abin_lss, abin_leq, abin_gtr, abin_geq, aunary_not, aextract, Option.some.injEq, Prod.mk.injEq, Value.bool.injEq, exists_eq_left', exists_and_left, and_assoc, decide_eq_true_eq, decide_eq_false_iff_not, if_true, if_false, Nat.zero_add, Nat.add_zero, Option.bind_some, true_and, and_true, forall_const, true_implies, Bool.not_eq_true, Bool.false_eq_true, false_implies, ite_self, Nat.mul_one, hne]
    refine m_cond (t := true) (by simp [evalT, FT.get_set, FT.setL, faS_ptr, nilS_ptr, nilS_func, nilS_yield, pickS_bool, ldS_ptr, list_cells, list_ro, partS_none, lenSl_of, lenStr_of, cvInt_of, aminmax_max, aminmax_min, abin_add, abin_sub, abin_mul, abin_eql, abin_neq, abin_lss, abin_leq, abin_gtr, abin_geq, aunary_not, aextract]) (fun _ => m_exit ?_) tf
    simp (decide := true) only [if_true, if_false]
    refine ⟨⟨D, c0, W, j, rv, half, k, by omega, hk2, hp2, hr, hm, hws, by simp [FT.get_set, FT.setL, faS_ptr, nilS_ptr, nilS_func, nilS_yield, pickS_bool, ldS_ptr, list_cells, list_ro, partS_none, lenSl_of, lenStr_of, cvInt_of, aminmax_max, aminmax_min, abin_add, abin_sub, abin_mul, abin_eql, abin_neq, abin_lss, abin_leq, abin_gtr, abin_geq, aunary_not, aextract, t1], by simp [FT.get_set, FT.setL, faS_ptr, nilS_ptr, nilS_func, nilS_yield, pickS_bool, ldS_ptr, list_cells, list_ro, partS_none, lenSl_of, lenStr_of, cvInt_of, aminmax_max, aminmax_min, abin_add, abin_sub, abin_mul, abin_eql, abin_neq, abin_lss, abin_leq, abin_gtr, abin_geq, aunary_not, aextract, t2'], by simp [FT.get_set, FT.setL, faS_ptr, nilS_ptr, nilS_func, nilS_yield, pickS_bool, ldS_ptr, list_cells, list_ro, partS_none, lenSl_of, lenStr_of, cvInt_of, aminmax_max, aminmax_min, abin_add, abin_sub, abin_mul, abin_eql, abin_neq, abin_lss, abin_leq, abin_gtr, abin_geq, aunary_not, aextract, t7], by simp [FT.get_set, FT.setL, faS_ptr, nilS_ptr, nilS_func, nilS_yield, pickS_bool, ldS_ptr, list_cells, list_ro, partS_none, lenSl_of, lenStr_of, cvInt_of, aminmax_max, aminmax_min, abin_add, abin_sub, abin_mul, abin_eql, abin_neq, abin_lss, abin_leq, abin_gtr, abin_geq, aunary_not, aextract, t9], by simp [FT.get_set, FT.setL, faS_ptr, nilS_ptr, nilS_func, nilS_yield, pickS_bool, ldS_ptr, list_cells, list_ro, partS_none, lenSl_of, lenStr_of, cvInt_of, aminmax_max, aminmax_min, abin_add, abin_sub, abin_mul, abin_eql, abin_neq, abin_lss, abin_leq, abin_gtr, abin_geq, aunary_not, aextract, t10'], by simp [FT.get_set, FT.setL, faS_ptr, nilS_ptr, nilS_func, nilS_yield, pickS_bool, ldS_ptr, list_cells, list_ro, partS_none, lenSl_of, lenStr_of, cvInt_of, aminmax_max, aminmax_min, abin_add, abin_sub, abin_mul, abin_eql, abin_neq, abin_lss, abin_leq, abin_gtr, abin_geq, aunary_not, aextract, t11'], by simp [FT.get_set, FT.setL, faS_ptr, nilS_ptr, nilS_func, nilS_yield, pickS_bool, ldS_ptr, list_cells, list_ro, partS_none, lenSl_of, lenStr_of, cvInt_of, aminmax_max, aminmax_min, abin_add, abin_sub, abin_mul, abin_eql, abin_neq, abin_lss, abin_leq, abin_gtr, abin_geq, aunary_not, aextract, t12]⟩, by simp [FT.get_set, FT.setL, faS_ptr, nilS_ptr, nilS_func, nilS_yield, pickS_bool, ldS_ptr, list_cells, list_ro, partS_none, lenSl_of, lenStr_of, cvInt_of, aminmax_max, aminmax_min, abin_add, abin_sub, abin_mul, abin_eql, abin_neq, abin_lss, abin_leq, abin_gtr, abin_geq, aunary_not, aextract]⟩
  · rw [zrs_snoc, zrs_live, hm] at hfit
    have hkk := (kmax_le (N := N) (sz := sz) (k := k + 1) hN.1).1 hfit
    refine m_seq (m_seq (m_reg ?_))
    rw [reg3_18]
    simp (decide := true) only [FT.get_set, FT.setL, faS_ptr, nilS_ptr, nilS_func, nilS_yield, pickS_bool, ldS_ptr, list_cells, list_ro, partS_none, lenSl_of, lenStr_of, cvInt_of, aminmax_max, aminmax_min, abin_add, abin_sub, abin_mul, abin_eql, abin_neq, abin_lss, abin_leq, abin_gtr, abin_geq, aunary_not, aextract, Option.some.injEq, Prod.mk.injEq, Value.bool.injEq, exists_eq_left', exists_and_left, and_assoc, decide_eq_true_eq, decide_eq_false_iff_not, if_true, if_false, Nat.zero_add, Nat.add_zero, Option.bind_some, true_and, and_true, forall_const, true_implies, Bool.not_eq_true, Bool.false_eq_true, false_implies, ite_self, Nat.mul_one, bne_self_eq_false]
    refine m_cond (t := false) (by simp [evalT, FT.get_set, FT.setL, faS_ptr, nilS_ptr, nilS_func, nilS_yield, pickS_bool, ldS_ptr, list_cells, list_ro, partS_none, lenSl_of, lenStr_of, cvInt_of, aminmax_max, aminmax_min, abin_add, abin_sub, abin_mul, abin_eql, abin_neq, abin_lss, abin_leq, abin_gtr, abin_geq, aunary_not, aextract]) ff (fun _ => m_skip ?_)
    simp only
    refine m_reg ?_
    rw [reg3_19]
    have hwi : IntKind.i64.wrap ((k : Int) + 1) = ((k + 1 : Nat) : Int) := by rw [wrap_i64 (by omega) (by omega)]; rfl
    simp (decide := true) only [FT.get_set, FT.setL, faS_ptr, nilS_ptr, nilS_func, nilS_yield, pickS_bool, ldS_ptr, list_cells, list_ro, partS_none, lenSl_of, lenStr_of, cvInt_of, aminmax_max, aminmax_min, abin_add, abin_sub, abin_mul, abin_eql, abin_neq, abin_lss, abin_leq, abin_gtr, abin_geq, aunary_not, aextract, Option.some.injEq, Prod.mk.injEq, Value.bool.injEq, exists_eq_left', exists_and_left, and_assoc, decide_eq_true_eq, decide_eq_false_iff_not, if_true, if_false, Nat.zero_add, Nat.add_zero, Option.bind_some, true_and, and_true, forall_const, true_implies, Bool.not_eq_true, Bool.false_eq_true, false_implies, ite_self, Nat.mul_one, t12, hwi]
    rw [zrs_snoc] at hp3
    exact ⟨m - 1, by omega, D3, c0, _, j, rv3, half, k + 1, by omega, hkk, hp3, hr3, hm3.trans hm, by omega, by simp [FT.get_set, FT.setL, faS_ptr, nilS_ptr, nilS_func, nilS_yield, pickS_bool, ldS_ptr, list_cells, list_ro, partS_none, lenSl_of, lenStr_of, cvInt_of, aminmax_max, aminmax_min, abin_add, abin_sub, abin_mul, abin_eql, abin_neq, abin_lss, abin_leq, abin_gtr, abin_geq, aunary_not, aextract, t1], by simp [FT.get_set, FT.setL, faS_ptr, nilS_ptr, nilS_func, nilS_yield, pickS_bool, ldS_ptr, list_cells, list_ro, partS_none, lenSl_of, lenStr_of, cvInt_of, aminmax_max, aminmax_min, abin_add, abin_sub, abin_mul, abin_eql, abin_neq, abin_lss, abin_leq, abin_gtr, abin_geq, aunary_not, aextract, t2'], by simp [FT.get_set, FT.setL, faS_ptr, nilS_ptr, nilS_func, nilS_yield, pickS_bool, ldS_ptr, list_cells, list_ro, partS_none, lenSl_of, lenStr_of, cvInt_of, aminmax_max, aminmax_min, abin_add, abin_sub, abin_mul, abin_eql, abin_neq, abin_lss, abin_leq, abin_gtr, abin_geq, aunary_not, aextract, t7], by simp [FT.get_set, FT.setL, faS_ptr, nilS_ptr, nilS_func, nilS_yield, pickS_bool, ldS_ptr, list_cells, list_ro, partS_none, lenSl_of, lenStr_of, cvInt_of, aminmax_max, aminmax_min, abin_add, abin_sub, abin_mul, abin_eql, abin_neq, abin_lss, abin_leq, abin_gtr, abin_geq, aunary_not, aextract, t9], by simp [FT.get_set, FT.setL, faS_ptr, nilS_ptr, nilS_func, nilS_yield, pickS_bool, ldS_ptr, list_cells, list_ro, partS_none, lenSl_of, lenStr_of, cvInt_of, aminmax_max, aminmax_min, abin_add, abin_sub, abin_mul, abin_eql, abin_neq, abin_lss, abin_leq, abin_gtr, abin_geq, aunary_not, aextract, t10'], by simp [FT.get_set, FT.setL, faS_ptr, nilS_ptr, nilS_func, nilS_yield, pickS_bool, ldS_ptr, list_cells, list_ro, partS_none, lenSl_of, lenStr_of, cvInt_of, aminmax_max, aminmax_min, abin_add, abin_sub, abin_mul, abin_eql, abin_neq, abin_lss, abin_leq, abin_gtr, abin_geq, aunary_not, aextract, t11'], by simp [FT.get_set, FT.setL, faS_ptr, nilS_ptr, nilS_func, nilS_yield, pickS_bool, ldS_ptr, list_cells, list_ro, partS_none, lenSl_of, lenStr_of, cvInt_of, aminmax_max, aminmax_min, abin_add, abin_sub, abin_mul, abin_eql, abin_neq, abin_lss, abin_leq, abin_gtr, abin_geq, aunary_not, aextract]⟩
end Go.Proofs.Ytmfmbadfgnhonaa

