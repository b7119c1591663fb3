/-
  The walk through the journal's code: what its functions do to memory, part PyP5. Nothing is asked.
-/
import Derived.Test.YtmfmbadfgnhonaaPyP4
set_option linter.all false
namespace Go.Proofs.Ytmfmbadfgnhonaa
open Go Go.Ag
set_option linter.unusedVariables false
set_option maxRecDepth 100000

section
variable {S0 S : MS} {N wb d q j : Nat} {D : DK} {c0 : Nat → List UInt8} {W : List (Nat × List UInt8)} {rv bv lv x v15 : Value} {half : Nat} {base : List UInt8} {rs : List (List UInt8)} {s : Stp} {T : FT}

theorem MidP.of {T1 T2 : FT} {S' : MS} (hk : ∀ k ∈ [2, 7, 10, 11, 12, 13, 14, 15], T1.get k = T.get k) (h : MidP S0 N wb d q s x v15 bv lv base rs T1 T2 S') : MidP S0 N wb d q s x v15 bv lv base rs T T2 S' := by
  obtain ⟨D, c0, W, j, rv, half, nb, nrs, dead, e, want, h1, h2, h3, h4, h5, h6, h7, h8⟩ := h
  exact ⟨D, c0, W, j, rv, half, nb, nrs, dead, e, want, h1, h2, h3, h4, h5, h6, fun k hk' => (h7 k hk').trans (hk k hk'), h8⟩

theorem switchP (hlv : ∀ y, On v15 y → Av lv y) (hp : PX (On v15) S d D c0 W j rv half base rs false) (hr : PR S0 q s x v15 S d D j rv) (hL : LW S0.n S d D j rv bv lv base rs) (hx : RB S0 x s.bytes) (hxl : ∀ y, On x y → y < S0.n) (hxb : s.bytes.length ≤ 1048576) (hN : D.made.length = N) (hN2 : N ≤ 200) (hwb : D.ws.length ≤ wb) (hwb2 : wb ≤ 100000) (hh : D.halt ≤ 9223372036854775807) (hrs : rs.length ≤ 100)
    (t7 : T.get 7 = .pointer (some ⟨d, 0, none⟩)) (t9 : T.get 9 = .pointer (some ⟨j, 0, none⟩)) (t10 : T.get 10 = .int .i64 ((32 * N : Nat) : Int)) (t11 : T.get 11 = bv) (t12 : T.get 12 = lv) (t14 : T.get 14 = .pointer (some ⟨q, 0, none⟩)) (t15 : T.get 15 = v15) (t16 : T.get 16 = bv) (t17 : T.get 17 = lv) (t18 : T.get 18 = .int .i64 0) (t93 : T.get 93 = .int .i64 s.what) :
    MWp Try.prog O 237 blk4_2 T S fun y T' S' => y = .normal ∧ MidP S0 N wb d q s x v15 bv lv base rs T T' S' := by
  unfold blk4_2
  refine m_block (m_seq ?_)
  have sw : MWp Try.prog O 237 (.seq (.region 30 (ro 4 30) false) (.cond (.tmp 107) .skip (.seq (.region 31 (ro 4 31) false) (.cond (.tmp 107) .skip (.seq (.region 32 (ro 4 32) false) (.cond (.tmp 107) .skip (.seq (.region 33 (ro 4 33) false) (.cond (.tmp 107) .skip (.region 34 (ro 4 34) false))))))))) T S fun y T' S' => y = .normal ∧ S' = S ∧ (∃ t, T'.get 107 = .bool t) ∧ Kp [2, 7, 9, 10, 11, 12, 13, 14, 15, 16, 17, 18, 93] T T' := by
    refine m_seq (m_reg ?_)
    rw [reg4_30]
    simp (decide := true) only [FT.get_set, FT.setL, faS_ptr, nilS_ptr, nilS_func, nilS_yield, pickS_bool, ldS_ptr, list_cells, list_ro, partS_none, lenSl_of, lenStr_of, cvInt_of, aminmax_max, aminmax_min, abin_add, abin_sub, abin_mul, abin_eql, abin_neq, abin_lss, abin_leq, abin_gtr, abin_geq, aunary_not, aextract, Option.some.injEq, Prod.mk.injEq, Value.bool.injEq, exists_eq_left', exists_and_left, and_assoc, decide_eq_true_eq, decide_eq_false_iff_not, if_true, if_false, Nat.zero_add, Nat.add_zero, Option.bind_some, true_and, and_true, forall_const, true_implies, Bool.not_eq_true, Bool.false_eq_true, false_implies, ite_self, Nat.mul_one, t93]
    refine m_cond (t := s.what == 0) (by simp [evalT, FT.get_set, FT.setL, faS_ptr, nilS_ptr, nilS_func, nilS_yield, pickS_bool, ldS_ptr, list_cells, list_ro, partS_none, lenSl_of, lenStr_of, cvInt_of, aminmax_max, aminmax_min, abin_add, abin_sub, abin_mul, abin_eql, abin_neq, abin_lss, abin_leq, abin_gtr, abin_geq, aunary_not, aextract]) (fun _ => m_skip ?_) (fun _ => ?_)
    · simp [Kp, FT.get_set, t93]
    refine m_seq (m_reg ?_)
    rw [reg4_31]
    simp (decide := true) only [FT.get_set, FT.setL, faS_ptr, nilS_ptr, nilS_func, nilS_yield, pickS_bool, ldS_ptr, list_cells, list_ro, partS_none, lenSl_of, lenStr_of, cvInt_of, aminmax_max, aminmax_min, abin_add, abin_sub, abin_mul, abin_eql, abin_neq, abin_lss, abin_leq, abin_gtr, abin_geq, aunary_not, aextract, Option.some.injEq, Prod.mk.injEq, Value.bool.injEq, exists_eq_left', exists_and_left, and_assoc, decide_eq_true_eq, decide_eq_false_iff_not, if_true, if_false, Nat.zero_add, Nat.add_zero, Option.bind_some, true_and, and_true, forall_const, true_implies, Bool.not_eq_true, Bool.false_eq_true, false_implies, ite_self, Nat.mul_one, t93]
    refine m_cond (t := s.what == 1) (by simp [evalT, FT.get_set, FT.setL, faS_ptr, nilS_ptr, nilS_func, nilS_yield, pickS_bool, ldS_ptr, list_cells, list_ro, partS_none, lenSl_of, lenStr_of, cvInt_of, aminmax_max, aminmax_min, abin_add, abin_sub, abin_mul, abin_eql, abin_neq, abin_lss, abin_leq, abin_gtr, abin_geq, aunary_not, aextract]) (fun _ => m_skip ?_) (fun _ => ?_)
    · simp [Kp, FT.get_set, t93]
    refine m_seq (m_reg ?_)
    rw [reg4_32]
    simp (decide := true) only [FT.get_set, FT.setL, faS_ptr, nilS_ptr, nilS_func, nilS_yield, pickS_bool, ldS_ptr, list_cells, list_ro, partS_none, lenSl_of, lenStr_of, cvInt_of, aminmax_max, aminmax_min, abin_add, abin_sub, abin_mul, abin_eql, abin_neq, abin_lss, abin_leq, abin_gtr, abin_geq, aunary_not, aextract, Option.some.injEq, Prod.mk.injEq, Value.bool.injEq, exists_eq_left', exists_and_left, and_assoc, decide_eq_true_eq, decide_eq_false_iff_not, if_true, if_false, Nat.zero_add, Nat.add_zero, Option.bind_some, true_and, and_true, forall_const, true_implies, Bool.not_eq_true, Bool.false_eq_true, false_implies, ite_self, Nat.mul_one, t93]
    refine m_cond (t := s.what == 2) (by simp [evalT, FT.get_set, FT.setL, faS_ptr, nilS_ptr, nilS_func, nilS_yield, pickS_bool, ldS_ptr, list_cells, list_ro, partS_none, lenSl_of, lenStr_of, cvInt_of, aminmax_max, aminmax_min, abin_add, abin_sub, abin_mul, abin_eql, abin_neq, abin_lss, abin_leq, abin_gtr, abin_geq, aunary_not, aextract]) (fun _ => m_skip ?_) (fun _ => ?_)
    · simp [Kp, FT.get_set, t93]
    refine m_seq (m_reg ?_)
    rw [reg4_33]
    simp (decide := true) only [FT.get_set, FT.setL, faS_ptr, nilS_ptr, nilS_func, nilS_yield, pickS_bool, ldS_ptr, list_cells, list_ro, partS_none, lenSl_of, lenStr_of, cvInt_of, aminmax_max, aminmax_min, abin_add, abin_sub, abin_mul, abin_eql, abin_neq, abin_lss, abin_leq, abin_gtr, abin_geq, aunary_not, aextract, Option.some.injEq, Prod.mk.injEq, Value.bool.injEq, exists_eq_left', exists_and_left, and_assoc, decide_eq_true_eq, decide_eq_false_iff_not, if_true, if_false, Nat.zero_add, Nat.add_zero, Option.bind_some, true_and, and_true, forall_const, true_implies, Bool.not_eq_true, Bool.false_eq_true, false_implies, ite_self, Nat.mul_one, t93]
    refine m_cond (t := s.what == 3) (by simp [evalT, FT.get_set, FT.setL, faS_ptr, nilS_ptr, nilS_func, nilS_yield, pickS_bool, ldS_ptr, list_cells, list_ro, partS_none, lenSl_of, lenStr_of, cvInt_of, aminmax_max, aminmax_min, abin_add, abin_sub, abin_mul, abin_eql, abin_neq, abin_lss, abin_leq, abin_gtr, abin_geq, aunary_not, aextract]) (fun _ => m_skip ?_) (fun _ => ?_)
    · simp [Kp, FT.get_set, t93]
    refine m_reg ?_
    rw [reg4_34]
    simp (decide := true) only [FT.get_set, FT.setL, faS_ptr, nilS_ptr, nilS_func, nilS_yield, pickS_bool, ldS_ptr, list_cells, list_ro, partS_none, lenSl_of, lenStr_of, cvInt_of, aminmax_max, aminmax_min, abin_add, abin_sub, abin_mul, abin_eql, abin_neq, abin_lss, abin_leq, abin_gtr, abin_geq, aunary_not, aextract, Option.some.injEq, Prod.mk.injEq, Value.bool.injEq, exists_eq_left', exists_and_left, and_assoc, decide_eq_true_eq, decide_eq_false_iff_not, if_true, if_false, Nat.zero_add, Nat.add_zero, Option.bind_some, true_and, and_true, forall_const, true_implies, Bool.not_eq_true, Bool.false_eq_true, false_implies, ite_self, Nat.mul_one, t93]
    simp [Kp, FT.get_set, t93]
  refine sw.mono ?_
  rintro y T1 S1 ⟨rfl, rfl, ⟨t, t107⟩, k1⟩
  have a : ∀ k ∈ [2, 7, 10, 11, 12, 13, 14, 15], T1.get k = T.get k := fun k hk => k1 k (by simp at hk ⊢; omega)
  have g9 := (k1 9 (by decide)).trans t9
  have g10 := (k1 10 (by decide)).trans t10
  have g7 := (k1 7 (by decide)).trans t7
  have g11 := (k1 11 (by decide)).trans t11
  have g12 := (k1 12 (by decide)).trans t12
  have g14 := (k1 14 (by decide)).trans t14
  have g15 := (k1 15 (by decide)).trans t15
  have g16 := (k1 16 (by decide)).trans t16
  have g17 := (k1 17 (by decide)).trans t17
  have g18 := (k1 18 (by decide)).trans t18
  have g93 := (k1 93 (by decide)).trans t93
  simp only
  refine m_cond (t := t) t107 (fun _ => ?_) (fun _ => ?_)
  · refine (swApp hp hr hL hx hxl hN hN2 hwb hwb2 hh hrs g9 g10 g11 g12 g14 g15 g16 g18).mono ?_
    rintro y T2 S2 ⟨rfl, h⟩
    exact ⟨rfl, h.of a⟩
  · refine m_seq (m_reg ?_)
    rw [reg4_41]
    simp (decide := true) only [FT.get_set, FT.setL, faS_ptr, nilS_ptr, nilS_func, nilS_yield, pickS_bool, ldS_ptr, list_cells, list_ro, partS_none, lenSl_of, lenStr_of, cvInt_of, aminmax_max, aminmax_min, abin_add, abin_sub, abin_mul, abin_eql, abin_neq, abin_lss, abin_leq, abin_gtr, abin_geq, aunary_not, aextract, Option.some.injEq, Prod.mk.injEq, Value.bool.injEq, exists_eq_left', exists_and_left, and_assoc, decide_eq_true_eq, decide_eq_false_iff_not, if_true, if_false, Nat.zero_add, Nat.add_zero, Option.bind_some, true_and, and_true, forall_const, true_implies, Bool.not_eq_true, Bool.false_eq_true, false_implies, ite_self, Nat.mul_one, g93]
    have b : ∀ k ∈ [2, 7, 10, 11, 12, 13, 14, 15], ((T1.set (.bool (s.what == 5)) 136).set (.bool (s.what == 5)) 135).get k = T.get k := fun k hk => by
      rw [← a k hk]
      simp at hk
      rcases hk with rfl | rfl | rfl | rfl | rfl | rfl | rfl | rfl <;> simp [FT.get_set]
    refine m_cond (t := s.what == 5) (by simp [evalT, FT.get_set, FT.setL, faS_ptr, nilS_ptr, nilS_func, nilS_yield, pickS_bool, ldS_ptr, list_cells, list_ro, partS_none, lenSl_of, lenStr_of, cvInt_of, aminmax_max, aminmax_min, abin_add, abin_sub, abin_mul, abin_eql, abin_neq, abin_lss, abin_leq, abin_gtr, abin_geq, aunary_not, aextract]) (fun _ => ?_) (fun _ => ?_)
    · refine (swSnap (bv := bv) (lv := lv) hp hr hL hx hxl hxb hN hN2 hwb hwb2 hh (by simp [FT.get_set, g9]) (by simp [FT.get_set, g10]) (by simp [FT.get_set, g14]) (by simp [FT.get_set, g15]) (by simp [FT.get_set, g18])).mono ?_
      rintro y T2 S2 ⟨rfl, h⟩
      exact ⟨rfl, h.of b⟩
    · refine (swOpen hlv hp hr hL hN hwb (by simp [FT.get_set, g7]) (by simp [FT.get_set, g16]) (by simp [FT.get_set, g17]) (by simp [FT.get_set, g18])).mono ?_
      rintro y T2 S2 ⟨rfl, h⟩
      exact ⟨rfl, h.of b⟩
end
end Go.Proofs.Ytmfmbadfgnhonaa

