/-
  The walk through both clocks' code: what its functions do to memory, part Pl5. Nothing is asked.
-/
import Derived.Test.YthkmkfgfabjhnaaPl4
set_option linter.all false
namespace Go.Proofs.Ythkmkfgfabjhnaa
open Go Go.Ag
set_option linter.unusedVariables false
set_option maxRecDepth 100000

theorem range30 {S0 S : MS} {sb b1 b2 c B : Nat} {now now0 next : Int} {w : Value} {ls : List Tm} {T : FT} (hls : ls.length ≤ 100000) (wf0 : S0.WF) (wf : S.WF) (hold : Old S0 S) (hsb0 : S0.n ≤ sb) (hb1 : S0.m b1 = some (.cells [.pointer (some ⟨c, 0, none⟩)] 0)) (hb2 : S0.m b2 = some (.cells [.int .i64 now] 0)) (hc : IsC S0 c B now0 next w ls)
    (t6 : T.get 6 = .func (.func 31) #[] #[.pointer (some ⟨b1, 0, none⟩), .pointer (some ⟨b2, 0, none⟩)]) (t2 : T.get 2 = .pointer (some ⟨sb, 0, none⟩)) (hsb : S.m sb = some (.cells [.slice none 0 0] 0)) :
    MWp Try.prog O 13 blk30_0 T S (fun x T' S' => x = .normal ∧ T' = T ∧ Old S0 S' ∧ ∃ v, S'.m sb = some (.cells [v] 0) ∧ SlF tmL 4 S' (S.n + 1) v (ls.take (dueN now ls))) := by
  unfold blk30_0
  refine m_block (m_rangeFunc rfl ?_)
  have e6 : evalT T (.tmp 6) = .func (.func 31) #[] #[.pointer (some ⟨b1, 0, none⟩), .pointer (some ⟨b2, 0, none⟩)] := t6
  rw [e6]
  show CallM Try.prog O 31 [.func (.yield S.n) #[] #[], .pointer (some ⟨b1, 0, none⟩), .pointer (some ⟨b2, 0, none⟩)] _ _
  have l1 := wf _ _ hsb
  have hn := hold.1
  have hpu : ∀ x k, x ≠ S.n → (S.push k).m x = S.m x := fun x k hx => by rw [push_m, if_neg hx]
  refine CallM.mono (due31 (b1 := b1) (b2 := b2) (c := c) (B := B) (B0 := 0) (now := now) (now0 := now0) (next := next) (w := w) (ls := ls) (l := S.n) hls (JA S0 ls sb S.n T) ?_ ?_ ?_ ?_) ?_
  · rintro k S' ⟨j0, j1, j2, j3⟩
    exact ⟨(j3 _ (wf0 _ _ hb1)).trans hb1, (j3 _ (wf0 _ _ hb2)).trans hb2, hc.keep wf0 j3⟩
  · rintro k S1 S2 ⟨j0, ⟨v, j1, j1'⟩, j2, j3⟩ wf1 hk
    exact ⟨(hk.2 _ (by omega)).trans j0, ⟨v, (hk.2 _ (by omega)).trans j1, j1'.keep fun y k' hy => hk.2 y (wf1 y k' hy)⟩, by have := hk.1; omega, fun x hx => (hk.2 x (by omega)).trans (j3 x hx)⟩
  · rintro k S1 x ⟨j0, ⟨v, j1, j1'⟩, j2, j3⟩ wf1 hx hxt
    refine roundM_body (T := T.set (.agg (tmL x).toArray) 7) j0 rfl ?_
    refine m_reg ?_
    rw [reg30_2]
    obtain ⟨S2, s1, s2, s3, s4⟩ := st_all (n := 4) (cs := (tmL x).toArray) (fresh_at S1 [.int .i64 0, .int .i64 0, .string ⟨⟨[]⟩⟩, .slice none 0 0] 0) rfl rfl rfl
    simp (decide := true) only [FT.get_set, FT.setL, faS_ptr, nilS_ptr, nilS_func, nilS_yield, pickS_bool, ldS_ptr, list_cells, list_ro, partS_none, lenSl_of, lenStr_of, cvInt_of, aminmax_max, aminmax_min, abin_add, abin_sub, abin_mul, abin_eql, abin_neq, abin_lss, abin_leq, abin_gtr, abin_geq, aunary_not, aextract, Option.some.injEq, Prod.mk.injEq, Value.bool.injEq, exists_eq_left', exists_and_left, and_assoc, decide_eq_true_eq, decide_eq_false_iff_not, if_true, if_false, Nat.zero_add, Nat.add_zero, Option.bind_some, true_and, and_true, forall_const, true_implies, Bool.not_eq_true, Bool.false_eq_true, false_implies, ite_self, Nat.mul_one, ptrTo]
    refine ⟨S2, s1, ?_⟩
    have f2 : Old S1 S2 := ⟨by rw [s3, fresh_n]; omega, fun y hy => by rw [s4 y (by omega), fresh_old _ _ _ (by omega)]⟩
    have hn2 : S2.n = S1.n + 1 := s3
    refine ⟨_, (f2.2 _ (by omega)).trans j0, rfl, ?_⟩
    have nz : S.n ≠ S1.n := by omega
    unfold blk30_1
    refine m_block (m_wf fun wf3 => m_reg ?_)
    rw [reg30_3]
    generalize hL : (⟨.busy, none, ⟨T, 13⟩, [7], (.region 2 (ro 30 2) false), (.block 1 (.region 3 (ro 30 3) false))⟩ : ALoop) = L at *
    have g : ∀ y, y ≠ S.n → (S2.set S.n (.loop L)).m y = S2.m y := fun y hy => by rw [set_m, if_neg hy]
    have hsb3 : (S2.set S.n (.loop L)).m sb = some (.cells [v] 0) := by rw [g _ (by omega), f2.2 _ (by omega)]; exact j1
    have hx3 : (S2.set S.n (.loop L)).m S1.n = some (.cells (tmL x) 0) := by rw [g _ (by omega)]; exact s2
    have hv3 : SlF tmL 4 (S2.set S.n (.loop L)) (S.n + 1) v (ls.take k) := j1'.keep1 fun y k' hy hyk => by
      rw [g y (fun e => by subst e; exact hy (j1'.av (Nat.lt_succ_self _))), f2.2 y (wf1 y k' hyk)]
    have wf4 := wf_fresh' wf3 (tmL x) 4
    have hv4 := hv3.keep (S' := (S2.set S.n (.loop L)).fresh (tmL x) 4) fun y k' hy => fresh_old _ _ _ (Nat.ne_of_lt (wf3 y k' hy))
    have hlk : (ls.take k).length ≤ 100000 := by rw [List.length_take]; omega
    obtain ⟨v', S5, a1, a2, a3, a4, a5⟩ := hv4.app2 (bytes := 56) (z := [.int .i64 0, .int .i64 0, .string ⟨⟨[]⟩⟩, .slice none 0 0]) tm_len tm_one (by decide) (x := .slice (some ⟨(S2.set S.n (.loop L)).n, 0, none⟩) 1 1) (new := [x]) wf4 (by simp only [fresh_n, set_n]; omega) rfl (firstTm _ _) (by simp only [List.length_singleton]; omega) (by simp only [List.length_singleton]; omega)
    have hsb5 : S5.m sb = some (.cells [v] 0) := by rw [a4 sb (by simp only [fresh_n, set_n]; omega) (hv4.av (by omega)), fresh_old _ _ _ (by simp only [set_n]; omega)]; exact hsb3
    obtain ⟨S6, u1, u2, u3, u4⟩ := st_one (off := 0) (v := v') hsb5 (by simp) (SlF.one a2).1 (SlF.one a2).2
    have hS1n : S1.n = (S2.set S.n (.loop L)).n - 1 := by simp only [set_n]; omega
    simp (decide := true) only [FT.get_set, FT.setL, faS_ptr, nilS_ptr, nilS_func, nilS_yield, pickS_bool, ldS_ptr, list_cells, list_ro, partS_none, lenSl_of, lenStr_of, cvInt_of, aminmax_max, aminmax_min, abin_add, abin_sub, abin_mul, abin_eql, abin_neq, abin_lss, abin_leq, abin_gtr, abin_geq, aunary_not, aextract, Option.some.injEq, Prod.mk.injEq, Value.bool.injEq, exists_eq_left', exists_and_left, and_assoc, decide_eq_true_eq, decide_eq_false_iff_not, if_true, if_false, Nat.zero_add, Nat.add_zero, Option.bind_some, true_and, and_true, forall_const, true_implies, Bool.not_eq_true, Bool.false_eq_true, false_implies, ite_self, Nat.mul_one, t2, list_of hsb3, list_of hx3, List.getElem?_cons_zero, partS_tm, bs_tm, a1]
    refine ⟨S6, u1, ?_⟩
    have lo : ∀ y, y < S.n + 1 → y ≠ sb → S6.m y = (S2.set S.n (.loop L)).m y := fun y hy hne => by rw [u4 y hne, a4 y (by simp only [fresh_n, set_n]; omega) (hv4.av hy), fresh_old _ _ _ (by simp only [set_n]; omega)]
    refine ⟨_, (lo S.n (by omega) (by omega)).trans (by rw [set_m, if_pos rfl]), ?_, ⟨v', ?_, ?_⟩, ?_, fun y hy => ?_⟩
    · rw [set_m, if_pos rfl, ← hL]; rfl
    · rw [set_m, if_neg (by omega)]; exact u2
    · rw [take_succ_of hx]
      refine a2.keep1 fun y k' hy hyk => ?_
      rw [set_m, if_neg (fun e => by subst e; exact hy (a2.av (Nat.lt_succ_self _))), u4 y (fun e => by subst e; exact hy (a2.av (by omega)))]
    · have := a3; simp only [fresh_n, set_n] at this ⊢; omega
    · rw [set_m, if_neg (by omega), lo y (by omega) (by omega), g y (by omega), f2.2 y (by omega)]; exact j3 y hy
  · exact ⟨by rw [push_m, if_pos rfl], ⟨.slice none 0 0, by rw [hpu _ _ (by omega)]; exact hsb, by rw [List.take_zero]; exact .non⟩, by rw [push_n]; omega, fun x hx => by rw [hpu _ _ (by omega)]; exact hold.2 x hx⟩
  · rintro _ S' ⟨j0, ⟨v, j1, j1'⟩, j2, j3⟩
    refine ⟨_, j0, by simp, rfl, rfl, ⟨by simp only [set_n]; omega, fun x hx => by rw [set_m, if_neg (by omega)]; exact j3 x hx⟩, v, by rw [set_m, if_neg (by omega)]; exact j1, ?_⟩
    exact j1'.keep1 fun y k' hy hyk => by rw [set_m, if_neg (fun e => by subst e; exact hy (j1'.av (Nat.lt_succ_self _)))]

theorem collect22 {S : MS} {b1 b2 c B : Nat} {now now0 next : Int} {w : Value} {ls : List Tm} (hls : ls.length ≤ 100000) (hb1 : S.m b1 = some (.cells [.pointer (some ⟨c, 0, none⟩)] 0)) (hb2 : S.m b2 = some (.cells [.int .i64 now] 0)) (hc : IsC S c B now0 next w ls)
    {Q : Value → MS → Prop} (hq : ∀ v S', Old S S' → SlF tmL 4 S' S.n v (ls.take (dueN now ls)) → Q v S') :
    CallM Try.prog O 22 [.func (.func 31) #[] #[.pointer (some ⟨b1, 0, none⟩), .pointer (some ⟨b2, 0, none⟩)]] S Q := by
  refine callM_wf fun wf => ?_
  refine callM_body (fnIs is22 body22 res22) (O_none (by decide)) (by simp) ?_
  refine m_seq (m_reg ?_)
  rw [reg22_0]
  refine m_seq (m_reg ?_)
  rw [reg22_1]
  simp (decide := true) only [FT.get_set, FT.setL, faS_ptr, nilS_ptr, nilS_func, nilS_yield, pickS_bool, ldS_ptr, list_cells, list_ro, partS_none, lenSl_of, lenStr_of, cvInt_of, aminmax_max, aminmax_min, abin_add, abin_sub, abin_mul, abin_eql, abin_neq, abin_lss, abin_leq, abin_gtr, abin_geq, aunary_not, aextract, Option.some.injEq, Prod.mk.injEq, Value.bool.injEq, exists_eq_left', exists_and_left, and_assoc, decide_eq_true_eq, decide_eq_false_iff_not, if_true, if_false, Nat.zero_add, Nat.add_zero, Option.bind_some, true_and, and_true, forall_const, true_implies, Bool.not_eq_true, Bool.false_eq_true, false_implies, ite_self, Nat.mul_one, ]
  refine callM_body (fnIs is30 body30 res30) (O_none (by decide)) (by simp) ?_
  refine m_seq (m_reg ?_)
  rw [reg30_0]
  have hcl : (Value.cells (.slice none 0 0)).toList = [.slice none 0 0] := rfl
  simp (decide := true) only [FT.get_set, FT.setL, faS_ptr, nilS_ptr, nilS_func, nilS_yield, pickS_bool, ldS_ptr, list_cells, list_ro, partS_none, lenSl_of, lenStr_of, cvInt_of, aminmax_max, aminmax_min, abin_add, abin_sub, abin_mul, abin_eql, abin_neq, abin_lss, abin_leq, abin_gtr, abin_geq, aunary_not, aextract, Option.some.injEq, Prod.mk.injEq, Value.bool.injEq, exists_eq_left', exists_and_left, and_assoc, decide_eq_true_eq, decide_eq_false_iff_not, if_true, if_false, Nat.zero_add, Nat.add_zero, Option.bind_some, true_and, and_true, forall_const, true_implies, Bool.not_eq_true, Bool.false_eq_true, false_implies, ite_self, Nat.mul_one, hcl, ptrTo]
  have hsb := fresh_at S [.slice none 0 0] 0
  have f1 := old_fresh S [.slice none 0 0] 0
  have wf1 := wf_fresh' wf [.slice none 0 0] 0
  refine m_seq (m_seq (m_reg ?_))
  rw [reg30_1]
  refine MWp.mono (range30 (S0 := S) (sb := S.n) (b1 := b1) (b2 := b2) (c := c) (B := B) (now := now) (now0 := now0) (next := next) (w := w) (ls := ls) hls wf wf1 f1 (Nat.le_refl _) hb1 hb2 hc ?_ ?_ hsb) ?_
  · simp [FT.get_set, FT.setL, faS_ptr, nilS_ptr, nilS_func, nilS_yield, pickS_bool, ldS_ptr, list_cells, list_ro, partS_none, lenSl_of, lenStr_of, cvInt_of, aminmax_max, aminmax_min, abin_add, abin_sub, abin_mul, abin_eql, abin_neq, abin_lss, abin_leq, abin_gtr, abin_geq, aunary_not, aextract]
  · simp [FT.get_set, FT.setL, faS_ptr, nilS_ptr, nilS_func, nilS_yield, pickS_bool, ldS_ptr, list_cells, list_ro, partS_none, lenSl_of, lenStr_of, cvInt_of, aminmax_max, aminmax_min, abin_add, abin_sub, abin_mul, abin_eql, abin_neq, abin_lss, abin_leq, abin_gtr, abin_geq, aunary_not, aextract]
  rintro _ T' S' ⟨rfl, rfl, hold, v, hv1, hv2⟩
  simp only
  refine m_seq (m_reg ?_)
  rw [reg30_4]
  simp (decide := true) only [FT.get_set, FT.setL, faS_ptr, nilS_ptr, nilS_func, nilS_yield, pickS_bool, ldS_ptr, list_cells, list_ro, partS_none, lenSl_of, lenStr_of, cvInt_of, aminmax_max, aminmax_min, abin_add, abin_sub, abin_mul, abin_eql, abin_neq, abin_lss, abin_leq, abin_gtr, abin_geq, aunary_not, aextract, Option.some.injEq, Prod.mk.injEq, Value.bool.injEq, exists_eq_left', exists_and_left, and_assoc, decide_eq_true_eq, decide_eq_false_iff_not, if_true, if_false, Nat.zero_add, Nat.add_zero, Option.bind_some, true_and, and_true, forall_const, true_implies, Bool.not_eq_true, Bool.false_eq_true, false_implies, ite_self, Nat.mul_one, list_of hv1, List.getElem?_cons_zero]
  refine m_ret ?_
  simp only [resM, oneOrTuple, FT.get_set]
  refine ⟨trivial, _, rfl, ?_⟩
  refine m_ret ?_
  simp [resM, FT.get_set, FT.setL, faS_ptr, nilS_ptr, nilS_func, nilS_yield, pickS_bool, ldS_ptr, list_cells, list_ro, partS_none, lenSl_of, lenStr_of, cvInt_of, aminmax_max, aminmax_min, abin_add, abin_sub, abin_mul, abin_eql, abin_neq, abin_lss, abin_leq, abin_gtr, abin_geq, aunary_not, aextract, oneOrTuple]
  exact hq v S' hold (hv2.weaken (by simp only [fresh_n]; omega))

theorem zeros_tm (k : Nat) : zeros [.int .i64 0, .int .i64 0, .string ⟨⟨[]⟩⟩, .slice none 0 0] k = (List.replicate k tm0).flatMap tmL := by
  unfold zeros
  induction k with
  | zero => rfl
  | succ k ih => rw [List.replicate_succ, List.replicate_succ, List.flatten_cons, List.flatMap_cons, ih]; rfl

/-- Delete of the first ones -/
theorem delete24 {S : MS} {B k : Nat} {w : Value} {l : List Tm} (h : SlF tmL 4 S B w l) (hk : k ≤ l.length) {Q : Value → MS → Prop} (hq : ∀ w' S', S'.n = S.n → (∀ y, Av w y → S'.m y = S.m y ∧ Av w' y) → SlF tmL 4 S' B w' (l.drop k) → Q w' S') :
    CallM Try.prog O 24 [w, .int .i64 0, .int .i64 k] S Q := by
  refine callM_body (fnIs is24 body24 res24) (O_none (by decide)) (by simp) ?_
  refine m_seq (m_reg ?_)
  rw [reg24_0]
  have zero : ∀ (T : FT), T.get 0 = w → T.get 1 = .int .i64 0 → T.get 2 = .int .i64 k → k = 0 → MWp Try.prog O 33 (.seq (.seq (.region 2 (ro 24 2) false) (.cond (.tmp 16) (.seq (.region 3 (ro 24 3) false) .ret) .skip)) (.seq (.region 4 (ro 24 4) false) (.seq (.region 5 (ro 24 5) true) (.seq (.region 6 (ro 24 6) false) (.seq (.region 7 (ro 24 7) false) .ret))))) T S (fun x T' S' => (match x with | .exit _ => False | _ => True) ∧ ∃ vs, resM Try.prog T' S' [.tmp 6] = some vs ∧ Q (oneOrTuple vs) S') := by
    intro T t0 t1 t2 hk0
    subst hk0
    refine m_seq (m_seq (m_reg ?_))
    rw [reg24_2]
    simp (decide := true) only [FT.get_set, FT.setL, faS_ptr, nilS_ptr, nilS_func, nilS_yield, pickS_bool, ldS_ptr, list_cells, list_ro, partS_none, lenSl_of, lenStr_of, cvInt_of, aminmax_max, aminmax_min, abin_add, abin_sub, abin_mul, abin_eql, abin_neq, abin_lss, abin_leq, abin_gtr, abin_geq, aunary_not, aextract, Option.some.injEq, Prod.mk.injEq, Value.bool.injEq, exists_eq_left', exists_and_left, and_assoc, decide_eq_true_eq, decide_eq_false_iff_not, if_true, if_false, Nat.zero_add, Nat.add_zero, Option.bind_some, true_and, and_true, forall_const, true_implies, Bool.not_eq_true, Bool.false_eq_true, false_implies, ite_self, Nat.mul_one, t1, t2]
    refine m_cond (t := true) (by simp [evalT, FT.get_set, FT.setL, faS_ptr, nilS_ptr, nilS_func, nilS_yield, pickS_bool, ldS_ptr, list_cells, list_ro, partS_none, lenSl_of, lenStr_of, cvInt_of, aminmax_max, aminmax_min, abin_add, abin_sub, abin_mul, abin_eql, abin_neq, abin_lss, abin_leq, abin_gtr, abin_geq, aunary_not, aextract]) (fun _ => ?_) (fun h => by cases h)
    refine m_seq (m_reg ?_)
    rw [reg24_3]
    refine m_ret ?_
    simp [resM, FT.get_set, FT.setL, faS_ptr, nilS_ptr, nilS_func, nilS_yield, pickS_bool, ldS_ptr, list_cells, list_ro, partS_none, lenSl_of, lenStr_of, cvInt_of, aminmax_max, aminmax_min, abin_add, abin_sub, abin_mul, abin_eql, abin_neq, abin_lss, abin_leq, abin_gtr, abin_geq, aunary_not, aextract, oneOrTuple, t0]
    exact hq w S rfl (fun y hy => ⟨rfl, hy⟩) (by rw [List.drop_zero]; exact h)
  refine m_seq (m_reg ?_)
  rw [reg24_1]
  cases h with
  | non =>
    have hk0 : k = 0 := by simpa using hk
    subst hk0
    have e0 : lenSl (.slice none 0 0) = some (.int .i64 0) := rfl
    have e1 : slS 4 S (.slice none 0 0) (some (.int .i64 0)) (some (.int .i64 ((0 : Nat) : Int))) (some (.int .i64 0)) = some (.slice none 0 0) := rfl
    simp (decide := true) only [FT.get_set, FT.setL, faS_ptr, nilS_ptr, nilS_func, nilS_yield, pickS_bool, ldS_ptr, list_cells, list_ro, partS_none, lenSl_of, lenStr_of, cvInt_of, aminmax_max, aminmax_min, abin_add, abin_sub, abin_mul, abin_eql, abin_neq, abin_lss, abin_leq, abin_gtr, abin_geq, aunary_not, aextract, Option.some.injEq, Prod.mk.injEq, Value.bool.injEq, exists_eq_left', exists_and_left, and_assoc, decide_eq_true_eq, decide_eq_false_iff_not, if_true, if_false, Nat.zero_add, Nat.add_zero, Option.bind_some, true_and, and_true, forall_const, true_implies, Bool.not_eq_true, Bool.false_eq_true, false_implies, ite_self, Nat.mul_one, e0, e1]
    exact zero _ (by simp [FT.get_set, FT.setL, faS_ptr, nilS_ptr, nilS_func, nilS_yield, pickS_bool, ldS_ptr, list_cells, list_ro, partS_none, lenSl_of, lenStr_of, cvInt_of, aminmax_max, aminmax_min, abin_add, abin_sub, abin_mul, abin_eql, abin_neq, abin_lss, abin_leq, abin_gtr, abin_geq, aunary_not, aextract]) (by simp [FT.get_set, FT.setL, faS_ptr, nilS_ptr, nilS_func, nilS_yield, pickS_bool, ldS_ptr, list_cells, list_ro, partS_none, lenSl_of, lenStr_of, cvInt_of, aminmax_max, aminmax_min, abin_add, abin_sub, abin_mul, abin_eql, abin_neq, abin_lss, abin_leq, abin_gtr, abin_geq, aunary_not, aextract]) (by simp [FT.get_set, FT.setL, faS_ptr, nilS_ptr, nilS_func, nilS_yield, pickS_bool, ldS_ptr, list_cells, list_ro, partS_none, lenSl_of, lenStr_of, cvInt_of, aminmax_max, aminmax_min, abin_add, abin_sub, abin_mul, abin_eql, abin_neq, abin_lss, abin_leq, abin_gtr, abin_geq, aunary_not, aextract]) rfl
  | own hb hB hc hj =>
    rename_i b cap junk
    have hN : ((l ++ junk).flatMap tmL).length = (l ++ junk).length * 4 := fm_len tm_len _
    have hle : l.length ≤ (l ++ junk).length := by simp
    have hunk : 1000000 < unk := by decide
    have e1 := slS_max (i := 0) (j := k) hb (by decide) hN hj hle (Nat.zero_le _) hk hc
    simp (decide := true) only [FT.get_set, FT.setL, faS_ptr, nilS_ptr, nilS_func, nilS_yield, pickS_bool, ldS_ptr, list_cells, list_ro, partS_none, lenSl_of, lenStr_of, cvInt_of, aminmax_max, aminmax_min, abin_add, abin_sub, abin_mul, abin_eql, abin_neq, abin_lss, abin_leq, abin_gtr, abin_geq, aunary_not, aextract, Option.some.injEq, Prod.mk.injEq, Value.bool.injEq, exists_eq_left', exists_and_left, and_assoc, decide_eq_true_eq, decide_eq_false_iff_not, if_true, if_false, Nat.zero_add, Nat.add_zero, Option.bind_some, true_and, and_true, forall_const, true_implies, Bool.not_eq_true, Bool.false_eq_true, false_implies, ite_self, Nat.mul_one, lenSl_of, show slS 4 S (.slice (some ⟨b, 0, none⟩) l.length cap) (some (.int .i64 0)) (some (.int .i64 (k : Int))) (some (.int .i64 l.length)) = _ from e1]
    by_cases hk0 : k = 0
    · exact zero _ (by simp [FT.get_set, FT.setL, faS_ptr, nilS_ptr, nilS_func, nilS_yield, pickS_bool, ldS_ptr, list_cells, list_ro, partS_none, lenSl_of, lenStr_of, cvInt_of, aminmax_max, aminmax_min, abin_add, abin_sub, abin_mul, abin_eql, abin_neq, abin_lss, abin_leq, abin_gtr, abin_geq, aunary_not, aextract]) (by simp [FT.get_set, FT.setL, faS_ptr, nilS_ptr, nilS_func, nilS_yield, pickS_bool, ldS_ptr, list_cells, list_ro, partS_none, lenSl_of, lenStr_of, cvInt_of, aminmax_max, aminmax_min, abin_add, abin_sub, abin_mul, abin_eql, abin_neq, abin_lss, abin_leq, abin_gtr, abin_geq, aunary_not, aextract]) (by simp [FT.get_set, FT.setL, faS_ptr, nilS_ptr, nilS_func, nilS_yield, pickS_bool, ldS_ptr, list_cells, list_ro, partS_none, lenSl_of, lenStr_of, cvInt_of, aminmax_max, aminmax_min, abin_add, abin_sub, abin_mul, abin_eql, abin_neq, abin_lss, abin_leq, abin_gtr, abin_geq, aunary_not, aextract]) hk0
    refine m_seq (m_seq (m_reg ?_))
    rw [reg24_2]
    have ek : ((0 : Int) == (k : Int)) = false := by simp; omega
    simp (decide := true) only [FT.get_set, FT.setL, faS_ptr, nilS_ptr, nilS_func, nilS_yield, pickS_bool, ldS_ptr, list_cells, list_ro, partS_none, lenSl_of, lenStr_of, cvInt_of, aminmax_max, aminmax_min, abin_add, abin_sub, abin_mul, abin_eql, abin_neq, abin_lss, abin_leq, abin_gtr, abin_geq, aunary_not, aextract, Option.some.injEq, Prod.mk.injEq, Value.bool.injEq, exists_eq_left', exists_and_left, and_assoc, decide_eq_true_eq, decide_eq_false_iff_not, if_true, if_false, Nat.zero_add, Nat.add_zero, Option.bind_some, true_and, and_true, forall_const, true_implies, Bool.not_eq_true, Bool.false_eq_true, false_implies, ite_self, Nat.mul_one, ek]
    refine m_cond (t := false) (by simp [evalT, FT.get_set, FT.setL, faS_ptr, nilS_ptr, nilS_func, nilS_yield, pickS_bool, ldS_ptr, list_cells, list_ro, partS_none, lenSl_of, lenStr_of, cvInt_of, aminmax_max, aminmax_min, abin_add, abin_sub, abin_mul, abin_eql, abin_neq, abin_lss, abin_leq, abin_gtr, abin_geq, aunary_not, aextract]) (fun h => by cases h) (fun _ => m_skip ?_)
    simp only
    refine m_seq (m_reg ?_)
    rw [reg24_4]
    simp (decide := true) only [FT.get_set, FT.setL, faS_ptr, nilS_ptr, nilS_func, nilS_yield, pickS_bool, ldS_ptr, list_cells, list_ro, partS_none, lenSl_of, lenStr_of, cvInt_of, aminmax_max, aminmax_min, abin_add, abin_sub, abin_mul, abin_eql, abin_neq, abin_lss, abin_leq, abin_gtr, abin_geq, aunary_not, aextract, Option.some.injEq, Prod.mk.injEq, Value.bool.injEq, exists_eq_left', exists_and_left, and_assoc, decide_eq_true_eq, decide_eq_false_iff_not, if_true, if_false, Nat.zero_add, Nat.add_zero, Option.bind_some, true_and, and_true, forall_const, true_implies, Bool.not_eq_true, Bool.false_eq_true, false_implies, ite_self, Nat.mul_one, lenSl_of]
    refine m_seq (m_draw ?_)
    rw [reg24_5]
    have c0 : (if cap = unk then unk else cap - 0) = cap := by split <;> omega
    have e2 : slS 4 S (.slice (some ⟨b, 0, none⟩) l.length cap) none (some (.int .i64 0)) none = some (.slice (some ⟨b, 0, none⟩) 0 cap) := by
      have := slS_part (low := none) (high := some (.int .i64 ((0 : Nat) : Int))) (i := 0) (j := 0) hb (by decide) hN hj hle (Nat.le_refl _) (Nat.zero_le _) hc (.inl ⟨rfl, rfl⟩) (.inr rfl)
      rw [c0, Nat.zero_mul] at this
      exact this
    have e3 := slS_part (low := some (.int .i64 (k : Int))) (high := none) (i := k) (j := l.length) hb (by decide) hN hj hle hk hle hc (.inr rfl) (.inl ⟨rfl, rfl⟩)
    have hfirst : firstCellsM S 4 (l.length - k) (.slice (some ⟨b, k * 4, none⟩) (l.length - k) (if cap = unk then unk else cap - k)) = some ((l.drop k).flatMap tmL) := by
      by_cases hz : l.length - k = 0
      · rw [hz]
        have : l.drop k = [] := List.drop_of_length_le (by omega)
        rw [this]
        exact first_zero (fun h => by cases h) (fun x h => by cases h; rfl)
      · rw [first_of (list_of hb) (Nat.le_refl _) hz (by rw [hN, ← Nat.add_mul]; exact Nat.mul_le_mul_right _ (by rw [List.length_append]; omega)), fm_drop tm_len, List.drop_append_of_le_length hk]
        have := fm_take tm_len (l.drop k) junk
        rw [List.length_drop] at this
        rw [this]
    -- the rest is put at the beginning
    have hap : ∃ S2, apS false 4 56 [.int .i64 0, .int .i64 0, .string ⟨⟨[]⟩⟩, .slice none 0 0] S [.slice (some ⟨b, 0, none⟩) 0 cap, .slice (some ⟨b, k * 4, none⟩) (l.length - k) (if cap = unk then unk else cap - k)] = some (.slice (some ⟨b, 0, none⟩) (l.length - k) cap, S2) ∧ S2.m b = some (.cells ((l.drop k ++ (l ++ junk).drop (l.length - k)).flatMap tmL) 4) ∧ S2.n = S.n ∧ ∀ y, y ≠ b → S2.m y = S.m y := by
      have hnl : ((l.drop k).flatMap tmL).length = (l.length - k) * 4 := by rw [fm_len tm_len, List.length_drop]
      have ho : ((l.drop k).flatMap tmL).all oneCell = true := by
        rw [List.all_eq_true]
        intro v hv
        obtain ⟨a, _, ha⟩ := List.mem_flatMap.1 hv
        exact List.all_eq_true.1 (tm_one a) v ha
      unfold apS appendedM
      simp only [Bool.false_eq_true, if_false, lenOfA, Option.bind_some, hfirst, Option.map_some, hnl, Nat.beq_refl, ho, Bool.and_self, if_true, hb]
      by_cases hz : l.length - k = 0
      · rw [if_pos hz]
        refine ⟨S, by rw [hz], ?_, rfl, fun _ _ => rfl⟩
        have : l.drop k = [] := List.drop_of_length_le (by omega)
        rw [this, hz]; exact hb
      · rw [if_neg hz]
        have hwr : S.write b (0 + 0 * 4) ((l.drop k).flatMap tmL) = some (S.set b (.cells (spliceL ((l ++ junk).flatMap tmL) ((l.drop k).flatMap tmL) (0 + 0 * 4)) 4)) := write_of hb (by rw [hN, hnl]; simp; omega)
        have hsp : spliceL ((l ++ junk).flatMap tmL) ((l.drop k).flatMap tmL) (0 + 0 * 4) = (l.drop k ++ (l ++ junk).drop (l.length - k)).flatMap tmL := by
          have := fm_splice tm_len [] (l ++ junk) (l.drop k) (by rw [List.length_drop, List.length_append]; omega)
          rw [List.nil_append, List.nil_append, List.length_drop] at this
          exact this
        refine ⟨S.set b (.cells ((l.drop k ++ (l ++ junk).drop (l.length - k)).flatMap tmL) 4), ?_, by rw [set_m, if_pos rfl], rfl, fun y hy => by rw [set_m, if_neg hy]⟩
        rcases hc with rfl | ⟨hc1, hc2⟩
        · rw [if_pos (Nat.beq_refl _)]
          have hin : Nat.ble (0 + (0 + (l.length - k)) * 4) ((l ++ junk).flatMap tmL).length = true := by rw [Nat.ble_eq, hN, List.length_append]; omega
          rw [if_pos hin, hwr, hsp]
          simp
        · rw [if_neg (by rw [Nat.beq_eq]; omega), if_pos (by rw [Nat.ble_eq]; omega), hwr, hsp]
          simp
    obtain ⟨S2, a1, a2, a3, a4⟩ := hap
    simp (decide := true) only [FT.get_set, FT.setL, faS_ptr, nilS_ptr, nilS_func, nilS_yield, pickS_bool, ldS_ptr, list_cells, list_ro, partS_none, lenSl_of, lenStr_of, cvInt_of, aminmax_max, aminmax_min, abin_add, abin_sub, abin_mul, abin_eql, abin_neq, abin_lss, abin_leq, abin_gtr, abin_geq, aunary_not, aextract, Option.some.injEq, Prod.mk.injEq, Value.bool.injEq, exists_eq_left', exists_and_left, and_assoc, decide_eq_true_eq, decide_eq_false_iff_not, if_true, if_false, Nat.zero_add, Nat.add_zero, Option.bind_some, true_and, and_true, forall_const, true_implies, Bool.not_eq_true, Bool.false_eq_true, false_implies, ite_self, Nat.mul_one, show slS 4 S (.slice (some ⟨b, 0, none⟩) l.length cap) none (some (.int .i64 0)) none = _ from e2, show slS 4 S (.slice (some ⟨b, 0, none⟩) l.length cap) (some (.int .i64 (k : Int))) none none = _ from e3, a1]
    refine m_seq (m_reg ?_)
    rw [reg24_6]
    have hL2 : (l.drop k ++ (l ++ junk).drop (l.length - k)).length = (l ++ junk).length := by simp; omega
    have hN2 : ((l.drop k ++ (l ++ junk).drop (l.length - k)).flatMap tmL).length = (l ++ junk).length * 4 := by rw [fm_len tm_len, hL2]
    have e6 := slS_part (len := l.length - k) (low := some (.int .i64 ((l.length - k : Nat) : Int))) (high := some (.int .i64 (l.length : Int))) (i := l.length - k) (j := l.length) a2 (by decide) hN2 hj (by omega) (by omega) hle hc (.inr rfl) (.inr rfl)
    have hkk : l.length - (l.length - k) = k := by omega
    rw [hkk] at e6
    have hcl : clS [.int .i64 0, .int .i64 0, .string ⟨⟨[]⟩⟩, .slice none 0 0] S2 [.slice (some ⟨b, (l.length - k) * 4, none⟩) k (if cap = unk then unk else cap - (l.length - k))] = some (.tuple #[], S2.set b (.cells ((l.drop k ++ (List.replicate k tm0 ++ junk)).flatMap tmL) 4)) := by
      unfold clS
      simp only
      rw [if_neg hk0, zeros_tm, write_of a2 (by rw [hN2, fm_len tm_len, List.length_replicate, ← Nat.add_mul]; exact Nat.mul_le_mul_right _ (by rw [List.length_append]; omega))]
      simp only [Option.map_some]
      congr 4
      have h1 := fm_splice tm_len (l.drop k) ((l ++ junk).drop (l.length - k)) (List.replicate k tm0) (by rw [List.length_replicate, List.length_drop, List.length_append]; omega)
      rw [List.length_drop, Nat.zero_add, List.length_replicate] at h1
      rw [h1, List.drop_drop, List.append_assoc]
      congr 3
      rw [show l.length - k + k = l.length by omega, List.drop_left' rfl]
    simp (decide := true) only [FT.get_set, FT.setL, faS_ptr, nilS_ptr, nilS_func, nilS_yield, pickS_bool, ldS_ptr, list_cells, list_ro, partS_none, lenSl_of, lenStr_of, cvInt_of, aminmax_max, aminmax_min, abin_add, abin_sub, abin_mul, abin_eql, abin_neq, abin_lss, abin_leq, abin_gtr, abin_geq, aunary_not, aextract, Option.some.injEq, Prod.mk.injEq, Value.bool.injEq, exists_eq_left', exists_and_left, and_assoc, decide_eq_true_eq, decide_eq_false_iff_not, if_true, if_false, Nat.zero_add, Nat.add_zero, Option.bind_some, true_and, and_true, forall_const, true_implies, Bool.not_eq_true, Bool.false_eq_true, false_implies, ite_self, Nat.mul_one, lenSl_of, show slS 4 S2 (.slice (some ⟨b, 0, none⟩) (l.length - k) cap) (some (.int .i64 ((l.length - k : Nat) : Int))) (some (.int .i64 (l.length : Int))) none = _ from e6, hcl]
    refine m_seq (m_reg ?_)
    rw [reg24_7]
    refine m_ret ?_
    simp [resM, FT.get_set, FT.setL, faS_ptr, nilS_ptr, nilS_func, nilS_yield, pickS_bool, ldS_ptr, list_cells, list_ro, partS_none, lenSl_of, lenStr_of, cvInt_of, aminmax_max, aminmax_min, abin_add, abin_sub, abin_mul, abin_eql, abin_neq, abin_lss, abin_leq, abin_gtr, abin_geq, aunary_not, aextract, oneOrTuple]
    refine hq _ _ (by simp only [set_n]; exact a3) (fun y hy => ?_) ?_
    · have hyb : y ≠ b := fun e => by subst e; exact hy _ _ rfl
      exact ⟨by rw [set_m, if_neg hyb, a4 y hyb], fun l' c' e => by cases e; exact hy _ _ rfl⟩
    · have hl' : l.length - k = (l.drop k).length := by rw [List.length_drop]
      rw [hl']
      exact .own (junk := List.replicate k tm0 ++ junk) (by rw [set_m, if_pos rfl]; simp) hB (by
        rcases hc with hc | ⟨hc1, hc2⟩
        · exact .inl hc
        · exact .inr ⟨hc1, by simp at hc2 ⊢; omega⟩) (by simp at hj ⊢; omega)
end Go.Proofs.Ythkmkfgfabjhnaa

