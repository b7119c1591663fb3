/-
  The walk through the journal's code: what its functions do to memory, part PyP8. Nothing is asked.
-/
import Derived.Test.YtmfmbadfgnhonaaPyP7
set_option linter.all false
namespace Go.Proofs.Ytmfmbadfgnhonaa
open Go Go.Ag
set_option linter.unusedVariables false
set_option maxRecDepth 100000

section
variable {S0 S : MS} {N wb d q j i : Nat} {D : DK} {c0 : Nat → List UInt8} {W : List (Nat × List UInt8)} {rv bv lv x v15 av : Value} {half : Nat} {base : List UInt8} {rs : List (List UInt8)} {s : Stp} {dead : Bool} {T T0 : FT}

/-- behind a call -/
theorem tailA (h : MidP S0 N wb d q s x v15 bv lv base rs T0 T S) (hxb : s.bytes.length ≤ 1048576) (hv : ∀ y, On v15 y → S0.n ≤ y ∧ y ≠ q ∧ Av lv y) (hN2 : N ≤ 200) (hrs : rs.length ≤ i)
    (t2 : T0.get 2 = av) (t7 : T0.get 7 = .pointer (some ⟨d, 0, none⟩)) (t10 : T0.get 10 = .int .i64 ((32 * N : Nat) : Int)) (t11 : T0.get 11 = bv) (t12 : T0.get 12 = lv) (t14 : T0.get 14 = .pointer (some ⟨q, 0, none⟩)) (t15 : T0.get 15 = v15) :
    MWp Try.prog O 237 tail4a T S fun y T' S' => y = .normal ∧ PO S0 av N d (wb + 300) (i + 1) T' S' ∧ T'.get 13 = T0.get 13 := by
  obtain ⟨D, c0, W, j, rv, half, nb, nrs, dead, e, want, hp, hr, hL, hm, hws, hc, hk, t8, t9, t18⟩ := h
  have a2 := (hk 2 (by decide)).trans t2
  have a7 := (hk 7 (by decide)).trans t7
  have a10 := (hk 10 (by decide)).trans t10
  have a11 := (hk 11 (by decide)).trans t11
  have a12 := (hk 12 (by decide)).trans t12
  have a13 := hk 13 (by decide)
  have a14 := (hk 14 (by decide)).trans t14
  have a15 := (hk 15 (by decide)).trans t15
  refine m_wf fun wf => m_seq (m_reg ?_)
  rw [reg4_46]
  simp (decide := true) only [FT.get_set, FT.setL, faS_ptr, nilS_ptr, nilS_func, nilS_yield, pickS_bool, ldS_ptr, list_cells, list_ro, partS_none, lenSl_of, lenStr_of, cvInt_of, aminmax_max, aminmax_min, abin_add, abin_sub, abin_mul, abin_eql, abin_neq, abin_lss, abin_leq, abin_gtr, abin_geq, aunary_not, aextract, Option.some.injEq, Prod.mk.injEq, Value.bool.injEq, exists_eq_left', exists_and_left, and_assoc, decide_eq_true_eq, decide_eq_false_iff_not, if_true, if_false, Nat.zero_add, Nat.add_zero, Option.bind_some, true_and, and_true, forall_const, true_implies, Bool.not_eq_true, Bool.false_eq_true, false_implies, ite_self, Nat.mul_one, a15]
  refine spoilP hr.sl hxb fun w S1 n1 m1 hX => ?_
  have hp1 := hp.spoil (fun y hy => ⟨hr.on y hy, (hX y hy).1⟩) n1 m1
  have hL1 : LW S0.n S1 d D j rv bv lv base rs := hL.spoil (X := On v15) (fun y hy => ⟨(hv y hy).1, (hv y hy).2.2⟩) n1 m1
  have hbf1 : ∀ y, y < S0.n → Fr S1 d D j rv y ∧ S1.m y = S0.m y := fun y hy => by
    obtain ⟨g1, g2⟩ := hr.bf y hy
    exact ⟨⟨⟨by rw [n1]; exact g1.1.1, g1.1.2⟩, g1.2⟩, (m1 y fun e => by have := (hv y e).1; omega).trans g2⟩
  have hq1 : S1.m q = some (.cells (stpL s x) 0) := (m1 q fun e => (hv q e).2.1 rfl).trans hr.bq
  refine m_seq (m_reg ?_)
  -- cut?
  have c47 : ∀ (T1 : FT) (Q : FT → MS → Prop), T1.get 8 = .int .i64 e → T1.get 18 = .int .i64 want → (∀ T', Kp [2, 7, 8, 9, 10, 11, 12, 13, 14, 16, 17, 18] T1 T' → T'.get 19 = .bool dead → Q T' S1) → mOps Try.prog O 237 (ro 4 47).toList (ro 4 47).toList [] T1 S1 Q := by
    intro T1 Q b8 b18 hQ
    rw [reg4_47, b8, b18]
    rcases hc with ⟨rfl, h2, rfl, _⟩ | ⟨rfl, rfl, rfl, _⟩ | ⟨rfl, rfl, rfl, _⟩
    · have e1 : (e == 0) = false := by simp [h2]
      refine ⟨.bool false, by rw [abin_eql, e1], false, rfl, ff, fun _ => ⟨.bool false, rfl, hQ _ ?_ ?_⟩⟩
      · simp [Kp, FT.get_set, b8, b18]
      · simp [FT.get_set]
    · refine ⟨.bool true, by rw [abin_eql]; rfl, true, rfl, fun _ => ⟨.bool false, by rw [abin_eql]; rfl, .bool false, rfl, hQ _ ?_ ?_⟩, tf⟩
      · simp [Kp, FT.get_set, b8, b18]
      · simp [FT.get_set]
    · refine ⟨.bool true, by rw [abin_eql]; rfl, true, rfl, fun _ => ⟨.bool true, by rw [abin_eql]; rfl, .bool true, rfl, hQ _ ?_ ?_⟩, tf⟩
      · simp [Kp, FT.get_set, b8, b18]
      · simp [FT.get_set]
  refine c47 _ _ (by simp [FT.get_set, t8]) (by simp [FT.get_set, t18]) fun T1 k1 h19 => ?_
  have b : ∀ k ∈ [2, 7, 8, 9, 10, 11, 12, 13, 14, 16, 17, 18], T1.get k = T.get k := fun k hk' => by
    rw [k1 k hk']
    simp at hk'
    rcases hk' with rfl | rfl | rfl | rfl | rfl | rfl | rfl | rfl | rfl | rfl | rfl | rfl <;> simp [FT.get_set]
  -- as it must be
  have c48 : ∀ (Q : FT → MS → Prop), (∀ T', Kp [2, 7, 8, 9, 10, 11, 12, 13, 14, 16, 17, 19] T1 T' → T'.get 162 = .bool false → Q T' S1) → mOps Try.prog O 237 (ro 4 48).toList (ro 4 48).toList [] T1 S1 Q := by
    intro Q hQ
    rw [reg4_48, (b 8 (by decide)).trans t8, (b 18 (by decide)).trans t18, h19]
    rcases hc with ⟨rfl, h2, rfl, _⟩ | ⟨rfl, rfl, rfl, _⟩ | ⟨rfl, rfl, rfl, _⟩
    · refine ⟨.bool false, by rw [abin_neq, bne_self_eq_false], false, rfl, ff, fun _ => ⟨.bool false, rfl, hQ _ ?_ ?_⟩⟩
      · simp [Kp, FT.get_set, (b 8 (by decide)).trans t8, h19]
      · simp [FT.get_set]
    · refine ⟨.bool false, by rw [abin_neq, bne_self_eq_false], false, rfl, ff, fun _ => ⟨.bool false, rfl, hQ _ ?_ ?_⟩⟩
      · simp [Kp, FT.get_set, (b 8 (by decide)).trans t8, h19]
      · simp [FT.get_set]
    · refine ⟨.bool true, by rw [abin_neq]; rfl, true, rfl, fun _ => ⟨.bool false, by rw [aunary_not]; rfl, .bool false, rfl, hQ _ ?_ ?_⟩, tf⟩
      · simp [Kp, FT.get_set, (b 8 (by decide)).trans t8, h19]
      · simp [FT.get_set]
  refine m_seq (m_seq (m_reg (c48 _ fun T2 k2 h162 => ?_)))
  refine m_cond (t := false) h162 ff (fun _ => m_skip ?_)
  simp only
  have b' : ∀ k ∈ [2, 7, 8, 9, 10, 11, 12, 13, 14, 16, 17], T2.get k = T.get k := fun k hk' => (k2 k (by simp at hk' ⊢; omega)).trans (b k (by simp at hk' ⊢; omega))
  have c8 := (b' 8 (by decide)).trans t8
  have c19 := (k2 19 (by decide)).trans h19
  refine m_seq (m_seq (m_reg ?_))
  rw [reg4_50]
  simp (decide := true) only [FT.get_set, FT.setL, faS_ptr, nilS_ptr, nilS_func, nilS_yield, pickS_bool, ldS_ptr, list_cells, list_ro, partS_none, lenSl_of, lenStr_of, cvInt_of, aminmax_max, aminmax_min, abin_add, abin_sub, abin_mul, abin_eql, abin_neq, abin_lss, abin_leq, abin_gtr, abin_geq, aunary_not, aextract, Option.some.injEq, Prod.mk.injEq, Value.bool.injEq, exists_eq_left', exists_and_left, and_assoc, decide_eq_true_eq, decide_eq_false_iff_not, if_true, if_false, Nat.zero_add, Nat.add_zero, Option.bind_some, true_and, and_true, forall_const, true_implies, Bool.not_eq_true, Bool.false_eq_true, false_implies, ite_self, Nat.mul_one, c8]
  have fin : ∀ (T3 : FT) (bv' lv' : Value), LW S0.n S1 d D j rv bv' lv' nb nrs → nrs.length ≤ i + 1 → T3.get 11 = bv' → T3.get 12 = lv' → T3.get 19 = .bool dead → (∀ k ∈ [2, 7, 9, 10, 13, 14], T3.get k = T.get k) → MWp Try.prog O 237 tail4b T3 S1 fun y T' S' => y = .normal ∧ PO S0 av N d (wb + 300) (i + 1) T' S' ∧ T'.get 13 = T0.get 13 := by
    intro T3 bv' lv' hLn hn d11 d12 d19 d
    refine (tailB (q := q) (s := s) (x := x) hp1 hLn hbf1 hq1 hm hws hn hN2 ((d 2 (by decide)).trans a2) ((d 7 (by decide)).trans a7) ((d 9 (by decide)).trans t9) ((d 10 (by decide)).trans a10) d11 d12 ((d 14 (by decide)).trans a14) d19).mono ?_
    rintro y T6 S6 ⟨rfl, h1, h2⟩
    exact ⟨rfl, h1, h2.trans ((d 13 (by decide)).trans a13)⟩
  rcases hc with ⟨h1, h2, h3, rfl, rfl⟩ | ⟨rfl, h2, h3, h4, h5, h6⟩ | ⟨rfl, h2, h3, rfl, rfl⟩
  · have e0 : (e == 0) = false := by simp [h2]
    refine m_cond (t := false) (by simp [evalT, FT.get_set, FT.setL, faS_ptr, nilS_ptr, nilS_func, nilS_yield, pickS_bool, ldS_ptr, list_cells, list_ro, partS_none, lenSl_of, lenStr_of, cvInt_of, aminmax_max, aminmax_min, abin_add, abin_sub, abin_mul, abin_eql, abin_neq, abin_lss, abin_leq, abin_gtr, abin_geq, aunary_not, aextract, e0]) ff (fun _ => m_skip ?_)
    simp only
    refine fin _ bv lv hL1 (by omega) ?_ ?_ ?_ fun k hk' => ?_
    · simp [FT.get_set, (b' 11 (by decide)).trans a11]
    · simp [FT.get_set, (b' 12 (by decide)).trans a12]
    · simp [FT.get_set, c19]
    · rw [← b' k (by simp at hk' ⊢; omega)]
      simp at hk'
      rcases hk' with rfl | rfl | rfl | rfl | rfl | rfl <;> simp [FT.get_set]
  · refine m_cond (t := true) (by simp [evalT, FT.get_set, FT.setL, faS_ptr, nilS_ptr, nilS_func, nilS_yield, pickS_bool, ldS_ptr, list_cells, list_ro, partS_none, lenSl_of, lenStr_of, cvInt_of, aminmax_max, aminmax_min, abin_add, abin_sub, abin_mul, abin_eql, abin_neq, abin_lss, abin_leq, abin_gtr, abin_geq, aunary_not, aextract]) (fun _ => ?_) tf
    refine m_reg ?_
    rw [reg4_51]
    refine fin _ (T.get 16) (T.get 17) (h5.spoil (X := On v15) (fun y hy => ⟨(hv y hy).1, h6 y hy⟩) n1 m1) (by omega) ?_ ?_ ?_ fun k hk' => ?_
    · simp [FT.get_set, b' 16 (by decide)]
    · simp [FT.get_set, b' 17 (by decide)]
    · simp [FT.get_set, c19]
    · rw [← b' k (by simp at hk' ⊢; omega)]
      simp at hk'
      rcases hk' with rfl | rfl | rfl | rfl | rfl | rfl <;> simp [FT.get_set]
  · refine m_cond (t := false) (by simp [evalT, FT.get_set, FT.setL, faS_ptr, nilS_ptr, nilS_func, nilS_yield, pickS_bool, ldS_ptr, list_cells, list_ro, partS_none, lenSl_of, lenStr_of, cvInt_of, aminmax_max, aminmax_min, abin_add, abin_sub, abin_mul, abin_eql, abin_neq, abin_lss, abin_leq, abin_gtr, abin_geq, aunary_not, aextract]) ff (fun _ => m_skip ?_)
    simp only
    refine fin _ bv lv hL1 (by omega) ?_ ?_ ?_ fun k hk' => ?_
    · simp [FT.get_set, (b' 11 (by decide)).trans a11]
    · simp [FT.get_set, (b' 12 (by decide)).trans a12]
    · simp [FT.get_set, c19]
    · rw [← b' k (by simp at hk' ⊢; omega)]
      simp at hk'
      rcases hk' with rfl | rfl | rfl | rfl | rfl | rfl <;> simp [FT.get_set]
end
end Go.Proofs.Ytmfmbadfgnhonaa

