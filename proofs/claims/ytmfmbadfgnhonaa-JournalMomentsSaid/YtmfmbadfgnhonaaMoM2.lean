/-
  The walk through the journal's code: what its functions do to memory, part MoM2. Nothing is asked.
-/
import Derived.Test.YtmfmbadfgnhonaaMoM1
set_option linter.all false
namespace Go.Proofs.Ytmfmbadfgnhonaa
open Go Go.Ag
set_option linter.unusedVariables false
set_option maxRecDepth 100000

theorem Kp.trans {ks ks' : List Nat} {T T' T'' : FT} (h : Kp ks T T') (h' : Kp ks' T' T'') (hs : ∀ k ∈ ks', k ∈ ks) : Kp ks' T T'' := fun k hk => (h' k hk).trans (h k (hs k hk))

/-- at each moment: opened, it is one of both -/
theorem inner6 {S : MS} {d : Nat} {D : DK} {c0 : Nat → List UInt8} {W2 : List (Nat × List UInt8)} {fr len : Nat} {bv lv nbv nlv : Value} {ob nb : List UInt8} {ors nrs : List (List UInt8)} {rl rl' : List Sv} {T : FT} (hI : IsD S d D) (hw : HW S D c0 W2) (hws : D.ws.length ≤ 900000) (hN : D.made.length = 80) (hW : W2.length = fr + len)
    (hmom : ∀ k, k ≤ len → ∃ half b' rs', Says 80 (appC c0 (W2.take (fr + k))) half (liveN b' rs') b' rs' ∧ liveN b' rs' ≤ 2560 ∧ ((b' = nb ∧ rs' = nrs) ∨ (b' = ob ∧ rs' = ors ∧ k ≠ len)))
    (hb : RB S bv ob) (hl : SlF svF 1 S 0 lv rl) (hr : RBs S rl ors) (hb' : RB S nbv nb) (hl' : SlF svF 1 S 0 nlv rl') (hr' : RBs S rl' nrs)
    (t5 : T.get 5 = .pointer (some ⟨d, 0, none⟩)) (t8 : T.get 8 = bv) (t9 : T.get 9 = lv) (t12 : T.get 12 = nbv) (t13 : T.get 13 = nlv) (t14 : T.get 14 = .int .i64 fr) :
    MWp Try.prog O 162 blk6_2 T S fun x T' S' => x = .normal ∧ Old S S' ∧ Kp [0, 1, 5, 7, 10, 12, 13] T T' := by
  unfold blk6_2
  refine m_wf fun wf => m_block (m_loop (fun m T' S' => ∃ k : Nat, k + m = len + 1 ∧ Old S S' ∧ Kp [0, 1, 5, 7, 8, 9, 10, 12, 13] T T' ∧ T'.get 14 = .int .i64 ((fr + k : Nat) : Int)) (len + 1) ⟨0, by omega, Old.refl S, fun k hk => rfl, by rw [t14, Nat.add_zero]⟩ ?_)
  rintro m T1 S1 ⟨k, hk, f1, k1, t14'⟩
  have a5 := (k1 5 (by decide)).trans t5
  have a8 := (k1 8 (by decide)).trans t8
  have a9 := (k1 9 (by decide)).trans t9
  have a12 := (k1 12 (by decide)).trans t12
  have a13 := (k1 13 (by decide)).trans t13
  have hI1 := hI.old' wf f1
  have hw1 := hw.old wf f1
  refine m_wf fun wf1 => m_seq (m_seq (m_reg ?_))
  rw [reg6_27]
  simp (decide := true) only [FT.get_set, FT.setL, faS_ptr, nilS_ptr, nilS_func, nilS_yield, pickS_bool, ldS_ptr, list_cells, list_ro, partS_none, lenSl_of, lenStr_of, cvInt_of, aminmax_max, aminmax_min, abin_add, abin_sub, abin_mul, abin_eql, abin_neq, abin_lss, abin_leq, abin_gtr, abin_geq, aunary_not, aextract, Option.some.injEq, Prod.mk.injEq, Value.bool.injEq, exists_eq_left', exists_and_left, and_assoc, decide_eq_true_eq, decide_eq_false_iff_not, if_true, if_false, Nat.zero_add, Nat.add_zero, Option.bind_some, true_and, and_true, forall_const, true_implies, Bool.not_eq_true, Bool.false_eq_true, false_implies, ite_self, Nat.mul_one, a5]
  refine writesD hI1 ?_
  simp (decide := true) only [FT.get_set, FT.setL, faS_ptr, nilS_ptr, nilS_func, nilS_yield, pickS_bool, ldS_ptr, list_cells, list_ro, partS_none, lenSl_of, lenStr_of, cvInt_of, aminmax_max, aminmax_min, abin_add, abin_sub, abin_mul, abin_eql, abin_neq, abin_lss, abin_leq, abin_gtr, abin_geq, aunary_not, aextract, Option.some.injEq, Prod.mk.injEq, Value.bool.injEq, exists_eq_left', exists_and_left, and_assoc, decide_eq_true_eq, decide_eq_false_iff_not, if_true, if_false, Nat.zero_add, Nat.add_zero, Option.bind_some, true_and, and_true, forall_const, true_implies, Bool.not_eq_true, Bool.false_eq_true, false_implies, ite_self, Nat.mul_one, t14']
  have hwl : D.ws.length = fr + len := by rw [hw.len, hW]
  refine m_cond (t := decide (((fr + k : Nat) : Int) ≤ (D.ws.length : Int))) (by simp [evalT, FT.get_set, FT.setL, faS_ptr, nilS_ptr, nilS_func, nilS_yield, pickS_bool, ldS_ptr, list_cells, list_ro, partS_none, lenSl_of, lenStr_of, cvInt_of, aminmax_max, aminmax_min, abin_add, abin_sub, abin_mul, abin_eql, abin_neq, abin_lss, abin_leq, abin_gtr, abin_geq, aunary_not, aextract]) (fun hlt => m_skip ?_) (fun hlt => m_exit ?_)
  · have hkl : k ≤ len := by have := of_decide_eq_true hlt; omega
    simp only
    unfold blk6_3
    refine m_seq (m_block (m_seq (m_reg ?_)))
    rw [reg6_29]
    simp (decide := true) only [FT.get_set, FT.setL, faS_ptr, nilS_ptr, nilS_func, nilS_yield, pickS_bool, ldS_ptr, list_cells, list_ro, partS_none, lenSl_of, lenStr_of, cvInt_of, aminmax_max, aminmax_min, abin_add, abin_sub, abin_mul, abin_eql, abin_neq, abin_lss, abin_leq, abin_gtr, abin_geq, aunary_not, aextract, Option.some.injEq, Prod.mk.injEq, Value.bool.injEq, exists_eq_left', exists_and_left, and_assoc, decide_eq_true_eq, decide_eq_false_iff_not, if_true, if_false, Nat.zero_add, Nat.add_zero, Option.bind_some, true_and, and_true, forall_const, true_implies, Bool.not_eq_true, Bool.false_eq_true, false_implies, ite_self, Nat.mul_one, a5, t14']
    refine callM_wf_post (atP hI1 hw1 (n := fr + k) (by omega) (by omega) (by omega) fun c C S2 f2 hC hoC hcut hm wf2 => ?_)
    simp (decide := true) only [FT.get_set, FT.setL, faS_ptr, nilS_ptr, nilS_func, nilS_yield, pickS_bool, ldS_ptr, list_cells, list_ro, partS_none, lenSl_of, lenStr_of, cvInt_of, aminmax_max, aminmax_min, abin_add, abin_sub, abin_mul, abin_eql, abin_neq, abin_lss, abin_leq, abin_gtr, abin_geq, aunary_not, aextract, Option.some.injEq, Prod.mk.injEq, Value.bool.injEq, exists_eq_left', exists_and_left, and_assoc, decide_eq_true_eq, decide_eq_false_iff_not, if_true, if_false, Nat.zero_add, Nat.add_zero, Option.bind_some, true_and, and_true, forall_const, true_implies, Bool.not_eq_true, Bool.false_eq_true, false_implies, ite_self, Nat.mul_one, List.getElem?_cons_zero, List.getElem?_cons_succ]
    refine m_seq (m_seq (m_reg ?_))
    rw [reg6_30]
    simp (decide := true) only [FT.get_set, FT.setL, faS_ptr, nilS_ptr, nilS_func, nilS_yield, pickS_bool, ldS_ptr, list_cells, list_ro, partS_none, lenSl_of, lenStr_of, cvInt_of, aminmax_max, aminmax_min, abin_add, abin_sub, abin_mul, abin_eql, abin_neq, abin_lss, abin_leq, abin_gtr, abin_geq, aunary_not, aextract, Option.some.injEq, Prod.mk.injEq, Value.bool.injEq, exists_eq_left', exists_and_left, and_assoc, decide_eq_true_eq, decide_eq_false_iff_not, if_true, if_false, Nat.zero_add, Nat.add_zero, Option.bind_some, true_and, and_true, forall_const, true_implies, Bool.not_eq_true, Bool.false_eq_true, false_implies, ite_self, Nat.mul_one, bne_self_eq_false]
    refine m_cond (t := false) (by simp [evalT, FT.get_set, FT.setL, faS_ptr, nilS_ptr, nilS_func, nilS_yield, pickS_bool, ldS_ptr, list_cells, list_ro, partS_none, lenSl_of, lenStr_of, cvInt_of, aminmax_max, aminmax_min, abin_add, abin_sub, abin_mul, abin_eql, abin_neq, abin_lss, abin_leq, abin_gtr, abin_geq, aunary_not, aextract]) ff (fun _ => m_skip ?_)
    simp only
    refine m_seq (m_reg ?_)
    rw [reg6_32]
    simp (decide := true) only [FT.get_set, FT.setL, faS_ptr, nilS_ptr, nilS_func, nilS_yield, pickS_bool, ldS_ptr, list_cells, list_ro, partS_none, lenSl_of, lenStr_of, cvInt_of, aminmax_max, aminmax_min, abin_add, abin_sub, abin_mul, abin_eql, abin_neq, abin_lss, abin_leq, abin_gtr, abin_geq, aunary_not, aextract, Option.some.injEq, Prod.mk.injEq, Value.bool.injEq, exists_eq_left', exists_and_left, and_assoc, decide_eq_true_eq, decide_eq_false_iff_not, if_true, if_false, Nat.zero_add, Nat.add_zero, Option.bind_some, true_and, and_true, forall_const, true_implies, Bool.not_eq_true, Bool.false_eq_true, false_implies, ite_self, Nat.mul_one, ]
    obtain ⟨half, b', rs', hsays, hlive, hor⟩ := hmom k hkl
    have hC80 : C.made.length = 80 := hm.trans hN
    refine callM_wf_post (open10 hC hoC hcut (by omega) (by rw [hC80]; exact hsays) fun j rv S3 f3 _ _ jj wf3 => ?_)
    simp (decide := true) only [FT.get_set, FT.setL, faS_ptr, nilS_ptr, nilS_func, nilS_yield, pickS_bool, ldS_ptr, list_cells, list_ro, partS_none, lenSl_of, lenStr_of, cvInt_of, aminmax_max, aminmax_min, abin_add, abin_sub, abin_mul, abin_eql, abin_neq, abin_lss, abin_leq, abin_gtr, abin_geq, aunary_not, aextract, Option.some.injEq, Prod.mk.injEq, Value.bool.injEq, exists_eq_left', exists_and_left, and_assoc, decide_eq_true_eq, decide_eq_false_iff_not, if_true, if_false, Nat.zero_add, Nat.add_zero, Option.bind_some, true_and, and_true, forall_const, true_implies, Bool.not_eq_true, Bool.false_eq_true, false_implies, ite_self, Nat.mul_one, List.getElem?_cons_zero, List.getElem?_cons_succ]
    refine m_seq (m_seq (m_reg ?_))
    rw [reg6_33]
    simp (decide := true) only [FT.get_set, FT.setL, faS_ptr, nilS_ptr, nilS_func, nilS_yield, pickS_bool, ldS_ptr, list_cells, list_ro, partS_none, lenSl_of, lenStr_of, cvInt_of, aminmax_max, aminmax_min, abin_add, abin_sub, abin_mul, abin_eql, abin_neq, abin_lss, abin_leq, abin_gtr, abin_geq, aunary_not, aextract, Option.some.injEq, Prod.mk.injEq, Value.bool.injEq, exists_eq_left', exists_and_left, and_assoc, decide_eq_true_eq, decide_eq_false_iff_not, if_true, if_false, Nat.zero_add, Nat.add_zero, Option.bind_some, true_and, and_true, forall_const, true_implies, Bool.not_eq_true, Bool.false_eq_true, false_implies, ite_self, Nat.mul_one, bne_self_eq_false, abin_ptr_nil_eql _ _ _ _ _ _ under28]
    refine m_cond (t := false) (by simp [evalT, FT.get_set, FT.setL, faS_ptr, nilS_ptr, nilS_func, nilS_yield, pickS_bool, ldS_ptr, list_cells, list_ro, partS_none, lenSl_of, lenStr_of, cvInt_of, aminmax_max, aminmax_min, abin_add, abin_sub, abin_mul, abin_eql, abin_neq, abin_lss, abin_leq, abin_gtr, abin_geq, aunary_not, aextract]) ff (fun _ => m_skip ?_)
    simp only
    have f13 : Old S S3 := (f1.trans f2).trans f3
    have ksl : ∀ {B : Nat} {v : Value} {l : List Sv} {S' : MS}, Old S S' → SlF svF 1 S B v l → SlF svF 1 S' B v l := fun f h => h.keep fun y q hq => f.2 y (wf _ _ hq)
    refine m_seq (m_reg (was6 jj.isJ (by omega) (hb.keep wf f13.2) (ksl f13 hl) (hr.keep wf f13.2) (by simp [FT.get_set]) (by simp [FT.get_set, a8]) (by simp [FT.get_set, a9]) (fun T4 S4 f4 k4 t18 => ?_) wf3))
    have f14 := f13.trans f4
    refine m_wf fun wf4 => m_seq (m_reg (is6' (jj.isJ.old wf3 f4) (by omega) (hb'.keep wf f14.2) (ksl f14 hl') (hr'.keep wf f14.2) ((k4 17 (by decide)).trans (by simp [FT.get_set])) ((k4 12 (by decide)).trans (by simp [FT.get_set, a12])) ((k4 13 (by decide)).trans (by simp [FT.get_set, a13])) (fun T5 S5 f5 k5 t19 => ?_) wf4))
    have f15 := f14.trans f5
    refine m_wf fun wf5 => m_seq (m_reg2 (fine6 (n := fr + k) (hI.old' wf f15) ?_ (((k5 5 (by decide)).trans (k4 5 (by decide))).trans (by simp [FT.get_set, a5])) (((k5 14 (by decide)).trans (k4 14 (by decide))).trans (by simp [FT.get_set, t14'])) ((k5 18 (by decide)).trans t18) t19 fun T6 k6 t159 => ?_))
    · rcases hor with ⟨rfl, rfl⟩ | ⟨rfl, rfl, hne⟩
      · exact .inl (by simp)
      · exact .inr ⟨by simp, by omega⟩
    refine m_cond (t := false) t159 ff (fun _ => m_skip ?_)
    simp only
    have g : ∀ i ∈ [0, 1, 5, 7, 8, 9, 10, 12, 13, 14], T6.get i = T1.get i := by
      intro i hi
      have h1 : i ∈ [0, 1, 5, 7, 8, 9, 10, 12, 13, 14, 17, 18] := by simp at hi ⊢; omega
      have h2 : i ∈ [0, 1, 5, 7, 8, 9, 10, 12, 13, 14, 17] := by simp at hi ⊢; omega
      rw [k6 i h1, k5 i h1, k4 i h2]
      simp at hi
      rcases hi with rfl | rfl | rfl | rfl | rfl | rfl | rfl | rfl | rfl | rfl <;> simp [FT.get_set]
    refine m_reg ?_
    rw [reg6_28]
    have hwi : IntKind.i64.wrap (((fr + k : Nat) : Int) + 1) = ((fr + (k + 1) : Nat) : Int) := by rw [wrap_i64 (by omega) (by omega)]; omega
    have b14 := (g 14 (by decide)).trans t14'
    simp (decide := true) only [FT.get_set, FT.setL, faS_ptr, nilS_ptr, nilS_func, nilS_yield, pickS_bool, ldS_ptr, list_cells, list_ro, partS_none, lenSl_of, lenStr_of, cvInt_of, aminmax_max, aminmax_min, abin_add, abin_sub, abin_mul, abin_eql, abin_neq, abin_lss, abin_leq, abin_gtr, abin_geq, aunary_not, aextract, Option.some.injEq, Prod.mk.injEq, Value.bool.injEq, exists_eq_left', exists_and_left, and_assoc, decide_eq_true_eq, decide_eq_false_iff_not, if_true, if_false, Nat.zero_add, Nat.add_zero, Option.bind_some, true_and, and_true, forall_const, true_implies, Bool.not_eq_true, Bool.false_eq_true, false_implies, ite_self, Nat.mul_one, b14, hwi]
    refine ⟨m - 1, by omega, k + 1, by omega, f15, fun i hi => ?_, by simp [FT.get_set, FT.setL, faS_ptr, nilS_ptr, nilS_func, nilS_yield, pickS_bool, ldS_ptr, list_cells, list_ro, partS_none, lenSl_of, lenStr_of, cvInt_of, aminmax_max, aminmax_min, abin_add, abin_sub, abin_mul, abin_eql, abin_neq, abin_lss, abin_leq, abin_gtr, abin_geq, aunary_not, aextract]⟩
    have h1 : i ∈ [0, 1, 5, 7, 8, 9, 10, 12, 13, 14] := by simp at hi ⊢; omega
    have h2 := (g i h1).trans (k1 i hi)
    rw [← h2]
    simp at hi
    rcases hi with rfl | rfl | rfl | rfl | rfl | rfl | rfl | rfl | rfl <;> simp [FT.get_set]
  · simp only [if_true]
    refine ⟨f1, fun i hi => ?_⟩
    have h1 : i ∈ [0, 1, 5, 7, 8, 9, 10, 12, 13] := by simp at hi ⊢; omega
    rw [← k1 i h1]
    simp at hi
    rcases hi with rfl | rfl | rfl | rfl | rfl | rfl | rfl <;> simp [FT.get_set]
end Go.Proofs.Ytmfmbadfgnhonaa

