/-
  The walk through the journal's code: what its functions do to memory, part PyP10. Nothing is asked.
-/
import Derived.Test.YtmfmbadfgnhonaaPyP9
set_option linter.all false
namespace Go.Proofs.Ytmfmbadfgnhonaa
open Go Go.Ag
set_option linter.unusedVariables false
set_option maxRecDepth 100000

theorem law4 {S : MS} {v av : Value} {first : List UInt8} {l : List Stp} (n : Int) (hv : RB S v first) (ha : ArgS S av l) : CallM Try.prog O 4 [.int .i64 n, v, av] S fun x _ => x = .bool true := by
  refine callM_wf fun wf => ?_
  refine callM_body (fnIs is4 body4 res4) (O_none (by decide)) (by simp) ?_
  refine m_seq (m_reg ?_)
  rw [reg4_0]
  refine m_seq (m_seq (m_reg ?_))
  rw [reg4_1]
  refine callM_known (v := .bool true) (by unfold O; rw [if_pos ⟨rfl, rfl⟩]) ?_
  simp (decide := true) only [FT.get_set, FT.setL, faS_ptr, nilS_ptr, nilS_func, nilS_yield, pickS_bool, ldS_ptr, list_cells, list_ro, partS_none, lenSl_of, lenStr_of, cvInt_of, aminmax_max, aminmax_min, abin_add, abin_sub, abin_mul, abin_eql, abin_neq, abin_lss, abin_leq, abin_gtr, abin_geq, aunary_not, aextract, Option.some.injEq, Prod.mk.injEq, Value.bool.injEq, exists_eq_left', exists_and_left, and_assoc, decide_eq_true_eq, decide_eq_false_iff_not, if_true, if_false, Nat.zero_add, Nat.add_zero, Option.bind_some, true_and, and_true, forall_const, true_implies, Bool.not_eq_true, Bool.false_eq_true, false_implies, ite_self, Nat.mul_one, ]
  refine m_cond (t := false) (by simp [evalT, FT.get_set, FT.setL, faS_ptr, nilS_ptr, nilS_func, nilS_yield, pickS_bool, ldS_ptr, list_cells, list_ro, partS_none, lenSl_of, lenStr_of, cvInt_of, aminmax_max, aminmax_min, abin_add, abin_sub, abin_mul, abin_eql, abin_neq, abin_lss, abin_leq, abin_gtr, abin_geq, aunary_not, aextract]) ff (fun _ => m_skip ?_)
  simp only
  refine m_seq (m_seq (m_reg (g4_3 (N := n) (v := v) (w := av) ha hv.len (by simp [FT.get_set, FT.setL, faS_ptr, nilS_ptr, nilS_func, nilS_yield, pickS_bool, ldS_ptr, list_cells, list_ro, partS_none, lenSl_of, lenStr_of, cvInt_of, aminmax_max, aminmax_min, abin_add, abin_sub, abin_mul, abin_eql, abin_neq, abin_lss, abin_leq, abin_gtr, abin_geq, aunary_not, aextract]) (by simp [FT.get_set, FT.setL, faS_ptr, nilS_ptr, nilS_func, nilS_yield, pickS_bool, ldS_ptr, list_cells, list_ro, partS_none, lenSl_of, lenStr_of, cvInt_of, aminmax_max, aminmax_min, abin_add, abin_sub, abin_mul, abin_eql, abin_neq, abin_lss, abin_leq, abin_gtr, abin_geq, aunary_not, aextract]) (by simp [FT.get_set, FT.setL, faS_ptr, nilS_ptr, nilS_func, nilS_yield, pickS_bool, ldS_ptr, list_cells, list_ro, partS_none, lenSl_of, lenStr_of, cvInt_of, aminmax_max, aminmax_min, abin_add, abin_sub, abin_mul, abin_eql, abin_neq, abin_lss, abin_leq, abin_gtr, abin_geq, aunary_not, aextract]) (fun T' h37 => ?_) fun hl hf h64 h200 T' k1 h37 => ?_)))
  · refine m_cond (t := true) h37 (fun _ => ?_) tf
    refine m_seq (m_reg ?_)
    rw [reg4_4]
    refine m_ret ?_
    simp [resM, FT.get_set, FT.setL, faS_ptr, nilS_ptr, nilS_func, nilS_yield, pickS_bool, ldS_ptr, list_cells, list_ro, partS_none, lenSl_of, lenStr_of, cvInt_of, aminmax_max, aminmax_min, abin_add, abin_sub, abin_mul, abin_eql, abin_neq, abin_lss, abin_leq, abin_gtr, abin_geq, aunary_not, aextract, oneOrTuple]
  have h0 := k1 0 (by decide)
  have h1 := k1 1 (by decide)
  have h2 := k1 2 (by decide)
  simp only [FT.get_set, FT.setL] at h0 h1 h2
  simp (decide := true) only [if_false, if_true] at h0 h1 h2
  obtain ⟨N, rfl⟩ : ∃ N : Nat, n = N := ⟨n.toNat, by omega⟩
  refine m_cond (t := false) h37 ff (fun _ => m_skip ?_)
  simp only
  have hN : 64 ≤ N ∧ N ≤ 200 := by omega
  have hfl : first.length ≤ 1000 := by omega
  -- a new disk
  refine m_seq (m_reg ?_)
  rw [reg4_5]
  simp (decide := true) only [FT.get_set, FT.setL, faS_ptr, nilS_ptr, nilS_func, nilS_yield, pickS_bool, ldS_ptr, list_cells, list_ro, partS_none, lenSl_of, lenStr_of, cvInt_of, aminmax_max, aminmax_min, abin_add, abin_sub, abin_mul, abin_eql, abin_neq, abin_lss, abin_leq, abin_gtr, abin_geq, aunary_not, aextract, Option.some.injEq, Prod.mk.injEq, Value.bool.injEq, exists_eq_left', exists_and_left, and_assoc, decide_eq_true_eq, decide_eq_false_iff_not, if_true, if_false, Nat.zero_add, Nat.add_zero, Option.bind_some, true_and, and_true, forall_const, true_implies, Bool.not_eq_true, Bool.false_eq_true, false_implies, ite_self, Nat.mul_one, h0]
  refine callM_wf_post (new8 N (by omega) (by omega) fun S1 hI n1 f1 wf1 => ?_)
  simp (decide := true) only [FT.get_set, FT.setL, faS_ptr, nilS_ptr, nilS_func, nilS_yield, pickS_bool, ldS_ptr, list_cells, list_ro, partS_none, lenSl_of, lenStr_of, cvInt_of, aminmax_max, aminmax_min, abin_add, abin_sub, abin_mul, abin_eql, abin_neq, abin_lss, abin_leq, abin_gtr, abin_geq, aunary_not, aextract, Option.some.injEq, Prod.mk.injEq, Value.bool.injEq, exists_eq_left', exists_and_left, and_assoc, decide_eq_true_eq, decide_eq_false_iff_not, if_true, if_false, Nat.zero_add, Nat.add_zero, Option.bind_some, true_and, and_true, forall_const, true_implies, Bool.not_eq_true, Bool.false_eq_true, false_implies, ite_self, Nat.mul_one, List.getElem?_cons_zero, List.getElem?_cons_succ]
  have hmd : (newDK S.n N).made.length = N := by simp [newDK]
  have hws0 : (newDK S.n N).ws.length = 0 := rfl
  have B1 : BF S S1 (S.n + 2) (newDK S.n N) := fun y hy => ⟨⟨by omega, by omega, by show y ≠ S.n + 1; omega, fun h => absurd rfl h, by show y ≠ S.n; omega⟩, f1 y hy⟩
  have hv1 : RB S1 v first := hv.keep wf f1
  refine m_seq (m_seq (m_reg ?_))
  rw [reg4_6]
  obtain ⟨v5, S2, a1, a2, a3, a4, a5⟩ := (SlF.non (f := bF) (sz := 1) (S := S1) (B := S1.n)).app2 (bytes := 1) (z := [.int .u8 0]) bF_len bF_one (by decide) (x := v) (new := first) wf1 (Nat.le_refl _) hv1.lenA hv1.flat (by simp; omega) (by simp; omega)
  rw [List.nil_append] at a2
  have f2 : Old S1 S2 := ⟨a3, fun y hy => a4 y hy fun l c e => by cases e⟩
  simp (decide := true) only [FT.get_set, FT.setL, faS_ptr, nilS_ptr, nilS_func, nilS_yield, pickS_bool, ldS_ptr, list_cells, list_ro, partS_none, lenSl_of, lenStr_of, cvInt_of, aminmax_max, aminmax_min, abin_add, abin_sub, abin_mul, abin_eql, abin_neq, abin_lss, abin_leq, abin_gtr, abin_geq, aunary_not, aextract, Option.some.injEq, Prod.mk.injEq, Value.bool.injEq, exists_eq_left', exists_and_left, and_assoc, decide_eq_true_eq, decide_eq_false_iff_not, if_true, if_false, Nat.zero_add, Nat.add_zero, Option.bind_some, true_and, and_true, forall_const, true_implies, Bool.not_eq_true, Bool.false_eq_true, false_implies, ite_self, Nat.mul_one, bne_self_eq_false, h1, a1]
  have hl5 : liveN first [] = first.length + 8 := by unfold liveN; simp [wsum]
  refine callM_wf fun wf2 => callM_wf_post (format9 (b := first) (hI.old' wf1 f2) ((newW N S.n _ hI).old wf1 f2) (by rw [hmd]; omega) (RB.own a2) (fun y hy => ?_) (by rw [hmd]; omega) (by rw [hws0]; omega) (by show (-1 : Int) ≤ 9223372036854775807; decide) (fun S3 D3 G3 wf3 => ?_) fun k S3 D3 hk hcut G3 _ => ?_)
  · exact FrD.new hI wf1 (SlF.on a2 hy) ((RB.own a2).on_lt wf2 hy)
  rotate_left
  · have := (G3.wn.live rfl (by show (-1 : Int) ≤ 0; decide)).1
    rw [hcut] at this; cases this
  have md3 : D3.made.length = N := by rw [G3.wn.made]; exact hmd
  have ws3 : D3.ws.length ≤ 301 := by
    have h1 := G3.wn.ws
    have h2 := @formW_len (newDK S.n N).made.length first (by omega)
    rw [hws0] at h1; omega
  have run3 : Runs D3 := G3.wn.live rfl (by show (-1 : Int) ≤ 0; decide)
  have B3 := (B1.old f2).goes G3
  have says3 : Says D3.made.length (appC (fun _ => List.replicate 256 0) ([] ++ formW (newDK S.n N).made.length first)) 0 (liveN first []) first [] := by
    rw [md3, hmd]
    have hl := (newW N S.n _ hI).lens
    rw [hmd] at hl
    exact formW_says hl (by omega) first (by omega)
  simp (decide := true) only [FT.get_set, FT.setL, faS_ptr, nilS_ptr, nilS_func, nilS_yield, pickS_bool, ldS_ptr, list_cells, list_ro, partS_none, lenSl_of, lenStr_of, cvInt_of, aminmax_max, aminmax_min, abin_add, abin_sub, abin_mul, abin_eql, abin_neq, abin_lss, abin_leq, abin_gtr, abin_geq, aunary_not, aextract, Option.some.injEq, Prod.mk.injEq, Value.bool.injEq, exists_eq_left', exists_and_left, and_assoc, decide_eq_true_eq, decide_eq_false_iff_not, if_true, if_false, Nat.zero_add, Nat.add_zero, Option.bind_some, true_and, and_true, forall_const, true_implies, Bool.not_eq_true, Bool.false_eq_true, false_implies, ite_self, Nat.mul_one, bne_self_eq_false]
  refine m_cond (t := false) (by simp [evalT, FT.get_set, FT.setL, faS_ptr, nilS_ptr, nilS_func, nilS_yield, pickS_bool, ldS_ptr, list_cells, list_ro, partS_none, lenSl_of, lenStr_of, cvInt_of, aminmax_max, aminmax_min, abin_add, abin_sub, abin_mul, abin_eql, abin_neq, abin_lss, abin_leq, abin_gtr, abin_geq, aunary_not, aextract]) ff (fun _ => m_skip ?_)
  simp only
  refine m_seq (m_reg ?_)
  rw [reg4_8]
  simp (decide := true) only [FT.get_set, FT.setL, faS_ptr, nilS_ptr, nilS_func, nilS_yield, pickS_bool, ldS_ptr, list_cells, list_ro, partS_none, lenSl_of, lenStr_of, cvInt_of, aminmax_max, aminmax_min, abin_add, abin_sub, abin_mul, abin_eql, abin_neq, abin_lss, abin_leq, abin_gtr, abin_geq, aunary_not, aextract, Option.some.injEq, Prod.mk.injEq, Value.bool.injEq, exists_eq_left', exists_and_left, and_assoc, decide_eq_true_eq, decide_eq_false_iff_not, if_true, if_false, Nat.zero_add, Nat.add_zero, Option.bind_some, true_and, and_true, forall_const, true_implies, Bool.not_eq_true, Bool.false_eq_true, false_implies, ite_self, Nat.mul_one, ]
  refine callM_wf_post (open10 (X := fun _ => False) G3.is G3.hw.holds run3.1 (by rw [md3]; omega) says3 (fun y hy => hy.elim) fun j rv S4 f4 hj4 hrv4 jj4 wf4 => ?_)
  have hp4 : PX (fun _ => False) S4 (S.n + 2) D3 (fun _ => List.replicate 256 0) ([] ++ formW (newDK S.n N).made.length first) j rv 0 first [] false := ⟨G3.is.old' wf3 f4, G3.hw.old wf3 f4, jj4, says3, by rw [md3]; omega, by rw [hl5, md3]; omega⟩
  have B4 := B3.old f4
  simp (decide := true) only [FT.get_set, FT.setL, faS_ptr, nilS_ptr, nilS_func, nilS_yield, pickS_bool, ldS_ptr, list_cells, list_ro, partS_none, lenSl_of, lenStr_of, cvInt_of, aminmax_max, aminmax_min, abin_add, abin_sub, abin_mul, abin_eql, abin_neq, abin_lss, abin_leq, abin_gtr, abin_geq, aunary_not, aextract, Option.some.injEq, Prod.mk.injEq, Value.bool.injEq, exists_eq_left', exists_and_left, and_assoc, decide_eq_true_eq, decide_eq_false_iff_not, if_true, if_false, Nat.zero_add, Nat.add_zero, Option.bind_some, true_and, and_true, forall_const, true_implies, Bool.not_eq_true, Bool.false_eq_true, false_implies, ite_self, Nat.mul_one, List.getElem?_cons_zero, List.getElem?_cons_succ]
  refine m_seq (m_seq (m_reg ?_))
  rw [reg4_9]
  simp (decide := true) only [FT.get_set, FT.setL, faS_ptr, nilS_ptr, nilS_func, nilS_yield, pickS_bool, ldS_ptr, list_cells, list_ro, partS_none, lenSl_of, lenStr_of, cvInt_of, aminmax_max, aminmax_min, abin_add, abin_sub, abin_mul, abin_eql, abin_neq, abin_lss, abin_leq, abin_gtr, abin_geq, aunary_not, aextract, Option.some.injEq, Prod.mk.injEq, Value.bool.injEq, exists_eq_left', exists_and_left, and_assoc, decide_eq_true_eq, decide_eq_false_iff_not, if_true, if_false, Nat.zero_add, Nat.add_zero, Option.bind_some, true_and, and_true, forall_const, true_implies, Bool.not_eq_true, Bool.false_eq_true, false_implies, ite_self, Nat.mul_one, bne_self_eq_false, abin_ptr_nil_eql _ _ _ _ _ _ under28]
  refine m_cond (t := false) (by simp [evalT, FT.get_set, FT.setL, faS_ptr, nilS_ptr, nilS_func, nilS_yield, pickS_bool, ldS_ptr, list_cells, list_ro, partS_none, lenSl_of, lenStr_of, cvInt_of, aminmax_max, aminmax_min, abin_add, abin_sub, abin_mul, abin_eql, abin_neq, abin_lss, abin_leq, abin_gtr, abin_geq, aunary_not, aextract]) ff (fun _ => m_skip ?_)
  simp only
  refine m_seq (m_reg ?_)
  rw [reg4_11]
  obtain ⟨bv', tv', rl', z1, _⟩ := jj4.ex
  simp (decide := true) only [FT.get_set, FT.setL, faS_ptr, nilS_ptr, nilS_func, nilS_yield, pickS_bool, ldS_ptr, list_cells, list_ro, partS_none, lenSl_of, lenStr_of, cvInt_of, aminmax_max, aminmax_min, abin_add, abin_sub, abin_mul, abin_eql, abin_neq, abin_lss, abin_leq, abin_gtr, abin_geq, aunary_not, aextract, Option.some.injEq, Prod.mk.injEq, Value.bool.injEq, exists_eq_left', exists_and_left, and_assoc, decide_eq_true_eq, decide_eq_false_iff_not, if_true, if_false, Nat.zero_add, Nat.add_zero, Option.bind_some, true_and, and_true, forall_const, true_implies, Bool.not_eq_true, Bool.false_eq_true, false_implies, ite_self, Nat.mul_one, ]
  refine capacity14 z1 hp4.is (by rw [md3]; omega) ?_
  rw [md3]
  refine m_seq (m_seq (m_reg ?_))
  rw [reg4_12]
  have w1 : IntKind.i64.wrap (32 * (N : Int)) = ((32 * N : Nat) : Int) := by rw [wrap_i64 (by omega) (by omega)]; omega
  have e1 : decide (((32 * N : Nat) : Int) < ((32 * N : Nat) : Int)) = false := decide_eq_false (by omega)
  simp (decide := true) only [FT.get_set, FT.setL, faS_ptr, nilS_ptr, nilS_func, nilS_yield, pickS_bool, ldS_ptr, list_cells, list_ro, partS_none, lenSl_of, lenStr_of, cvInt_of, aminmax_max, aminmax_min, abin_add, abin_sub, abin_mul, abin_eql, abin_neq, abin_lss, abin_leq, abin_gtr, abin_geq, aunary_not, aextract, Option.some.injEq, Prod.mk.injEq, Value.bool.injEq, exists_eq_left', exists_and_left, and_assoc, decide_eq_true_eq, decide_eq_false_iff_not, if_true, if_false, Nat.zero_add, Nat.add_zero, Option.bind_some, true_and, and_true, forall_const, true_implies, Bool.not_eq_true, Bool.false_eq_true, false_implies, ite_self, Nat.mul_one, h0, w1, e1]
  refine m_cond (t := false) (by simp [evalT, FT.get_set, FT.setL, faS_ptr, nilS_ptr, nilS_func, nilS_yield, pickS_bool, ldS_ptr, list_cells, list_ro, partS_none, lenSl_of, lenStr_of, cvInt_of, aminmax_max, aminmax_min, abin_add, abin_sub, abin_mul, abin_eql, abin_neq, abin_lss, abin_leq, abin_gtr, abin_geq, aunary_not, aextract, e1]) ff (fun _ => m_skip ?_)
  simp only
  refine m_seq (m_reg ?_)
  rw [reg4_14]
  refine m_seq (m_reg ?_)
  rw [reg4_15]
  refine m_seq (m_seq (m_reg ?_))
  rw [reg4_16]
  have hBF : ∀ y, y < S.n → Fr S4 (S.n + 2) D3 j rv y ∧ S4.m y = S.m y := fun y hy => by
    have h3 := (B3 y hy).1.1
    refine ⟨⟨(B4 y hy).1, by omega, Classical.byContradiction fun e => ?_⟩, (B4 y hy).2⟩
    have := hrv4 y e
    omega
  have hLW : LW S.n S4 (S.n + 2) D3 j rv v (.slice none 0 0) first [] := ⟨hv.keepOn fun y hy => (hBF y (hv.on_lt wf hy)).2, fun y hy => ⟨(hBF y (hv.on_lt wf hy)).1, hv.on_lt wf hy⟩, [], .non, ⟨rfl, fun i x r hx => by cases hx⟩, fun y hy => absurd (fun l c e => by cases e) hy, fun x hx => by cases hx⟩
  unfold blk4_0
  refine (MWp.mono (Q := fun y T' S' => y = .normal ∧ ∃ i, i ≤ l.length ∧ PO S av N (S.n + 2) (400 + 300 * i) i T' S') ?_ ?_)
  · refine m_block (m_loop (fun m T' S' => ∃ i, i + m = l.length ∧ PO S av N (S.n + 2) (400 + 300 * i) i T' S' ∧ T'.get 13 = .int .i64 i) l.length ⟨0, by omega, ⟨D3, _, _, j, rv, 0, v, .slice none 0 0, first, [], hp4, run3, hLW, hBF, md3, by omega, by simp, by simp [FT.get_set, h2], by simp [FT.get_set], by simp [FT.get_set], by simp [FT.get_set], by simp [FT.get_set, h1], by simp [FT.get_set]⟩, by simp [FT.get_set]⟩ ?_)
    rintro m T5 S5 ⟨i, hi, hpo, h13⟩
    refine (roundP wf ha hl hN.2 (by omega) hpo h13).mono ?_
    rintro y T6 S6 (⟨rfl, hlt, hpo6, h13'⟩ | ⟨rfl, hpo6⟩)
    · exact ⟨m - 1, by omega, i + 1, by omega, hpo6, h13'⟩
    · simp only [if_true]
      exact ⟨trivial, i, by omega, hpo6⟩
  · rintro y T6 S6 ⟨rfl, i, hi, D, c0, W, j6, rv6, half, bv, lv, base, rs, hp, hrun, hL, hbf, hm, hws, hrs, t2, t7, t9, t10, t11, t12⟩
    simp only
    refine m_wf fun wf6 => m_seq (m_reg ?_)
    rw [reg4_64]
    simp (decide := true) only [FT.get_set, FT.setL, faS_ptr, nilS_ptr, nilS_func, nilS_yield, pickS_bool, ldS_ptr, list_cells, list_ro, partS_none, lenSl_of, lenStr_of, cvInt_of, aminmax_max, aminmax_min, abin_add, abin_sub, abin_mul, abin_eql, abin_neq, abin_lss, abin_leq, abin_gtr, abin_geq, aunary_not, aextract, Option.some.injEq, Prod.mk.injEq, Value.bool.injEq, exists_eq_left', exists_and_left, and_assoc, decide_eq_true_eq, decide_eq_false_iff_not, if_true, if_false, Nat.zero_add, Nat.add_zero, Option.bind_some, true_and, and_true, forall_const, true_implies, Bool.not_eq_true, Bool.false_eq_true, false_implies, ite_self, Nat.mul_one, t7]
    refine callM_wf_post (openX hp (fun y hy => hy.elim) hrun.1 fun j7 rv7 S7 f7 g7 hp7 wf7 => ?_)
    simp (decide := true) only [FT.get_set, FT.setL, faS_ptr, nilS_ptr, nilS_func, nilS_yield, pickS_bool, ldS_ptr, list_cells, list_ro, partS_none, lenSl_of, lenStr_of, cvInt_of, aminmax_max, aminmax_min, abin_add, abin_sub, abin_mul, abin_eql, abin_neq, abin_lss, abin_leq, abin_gtr, abin_geq, aunary_not, aextract, Option.some.injEq, Prod.mk.injEq, Value.bool.injEq, exists_eq_left', exists_and_left, and_assoc, decide_eq_true_eq, decide_eq_false_iff_not, if_true, if_false, Nat.zero_add, Nat.add_zero, Option.bind_some, true_and, and_true, forall_const, true_implies, Bool.not_eq_true, Bool.false_eq_true, false_implies, ite_self, Nat.mul_one, List.getElem?_cons_zero, List.getElem?_cons_succ]
    have hL7 := g7.lw hL
    obtain ⟨rl, l1, l2, _, _⟩ := hL7.ex
    refine m_seq (m_reg ?_)
    rw [reg4_65]
    refine ⟨.bool true, by simp [FT.get_set, abin_eql], true, rfl, fun _ => ⟨.bool true, by simp [FT.get_set, abin_ptr_nil_neq _ _ _ _ _ _ under28], .bool true, rfl, true, rfl, fun _ => ?_, tf⟩, tf⟩
    simp only [FT.get_set, t11, t12]
    simp (decide := true) only [if_false, if_true, t11, t12]
    refine alike20 hp7.jj.isJ (by have := hp7.live; have := hp7.n; omega) hL7.b l1 l2 fun S8 f8 => ⟨.bool true, by simp [pickS_bool], m_ret ?_⟩
    simp [resM, FT.get_set, oneOrTuple]
end Go.Proofs.Ytmfmbadfgnhonaa

