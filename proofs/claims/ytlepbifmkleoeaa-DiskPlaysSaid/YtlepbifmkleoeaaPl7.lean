/-
  The walk through the disk's code, part 7: what its functions do to memory. Nothing is asked.
-/
import Derived.Test.YtlepbifmkleoeaaPl6
set_option linter.all false
namespace Go.Proofs.Ytlepbifmkleoeaa
open Go Go.Ag
set_option linter.unusedVariables false
set_option maxRecDepth 100000

theorem wv_len : ∀ l : List (Nat × Nat), (l.flatMap wv).length = l.length * 2 := by
  intro l
  induction l with
  | nil => rfl
  | cons x l ih => simp only [List.flatMap_cons, List.length_append, ih, List.length_cons, wv]; simp; omega
theorem wv_get : ∀ (l : List (Nat × Nat)) (k : Nat) (w : Nat × Nat), l[k]? = some w → ((l.flatMap wv).drop (k * 2)).take 2 = wv w := by
  intro l
  induction l with
  | nil => intro k w h; simp at h
  | cons x l ih =>
    intro k w h
    cases k with
    | zero => simp at h; subst h; simp [wv]
    | succ k =>
      have := ih k w (by simpa using h)
      simp only [List.flatMap_cons]
      rw [show (k + 1) * 2 = (wv x).length + k * 2 by simp [wv]; omega, ← List.drop_drop, List.drop_left]
      exact this

/-- the writes one by one, told to a loop -/
theorem told17 {box d l : Nat} {D : DK} (hsmall : D.ws.length < 1000000) (J : Nat → MS → Prop) (R : MS → Prop) {S : MS} (h0 : J 0 S) (hbox : S.m box = some (.cells [.pointer (some ⟨d, 0, none⟩)] 0))
    {a b : Value} (hd : S.m d = some (.cells (diskL a b (.slice (wsa D.wb D.ws.length) D.ws.length (wsc D.ws.length)) D.halt D.cut) 0)) (hJ : ∀ k S, J k S → D.ws ≠ [] → S.m D.wb = some (.cells (D.ws.flatMap wv) 2))
    (step : ∀ k S w, D.ws[k]? = some w → J k S → RoundM Try.prog O l [.int .i64 k, .agg #[.int .i64 w.1, .pointer (some ⟨w.2, 0, none⟩)]] (S.fresh (wv w) 0) fun v S' => (v = .bool true ∧ J (k + 1) S') ∨ (v = .bool false ∧ R S')) :
    CallM Try.prog O 17 [.func (.yield l) #[] #[], .pointer (some ⟨box, 0, none⟩)] S fun _ S' => J D.ws.length S' ∨ R S' := by
  refine callM_body (fnIs is17 body17 res17) (O_none (by decide)) (by simp) ?_
  refine m_seq (m_reg ?_)
  rw [reg17_0]
  simp (decide := true) only [FT.get_set, FT.setL, faS_ptr, nilS_ptr, nilS_func, nilS_yield, pickS_bool, ldS_ptr, list_cells, list_ro, partS_none, lenSl_of, lenStr_of, cvInt_of, aminmax_max, aminmax_min, abin_add, abin_sub, abin_mul, abin_eql, abin_neq, abin_lss, abin_leq, abin_gtr, abin_geq, aunary_not, aextract, Option.some.injEq, Prod.mk.injEq, Value.bool.injEq, exists_eq_left', exists_and_left, and_assoc, decide_eq_true_eq, decide_eq_false_iff_not, if_true, if_false, Nat.zero_add, Nat.add_zero, Option.bind_some, true_and, and_true, forall_const, true_implies, Bool.not_eq_true, Bool.false_eq_true, false_implies, ite_self, Nat.mul_one, list_of hbox, list_of hd, dl0, dl1, dl2, dl3, dl4, dlen, ds2, ds3, ds4, List.getElem?_cons_zero]
  refine m_block (m_loop (fun m T S' => ∃ k : Nat, k + m = D.ws.length ∧ T.get 0 = .func (.yield l) #[] #[] ∧ T.get 8 = .slice (wsa D.wb D.ws.length) D.ws.length (wsc D.ws.length) ∧ T.get 9 = .int .i64 D.ws.length ∧ T.get 10 = .int .i64 k ∧ J k S') D.ws.length ?_ ?_)
  · exact ⟨0, by omega, by simp [FT.get_set, FT.setL, faS_ptr, nilS_ptr, nilS_func, nilS_yield, pickS_bool, ldS_ptr, list_cells, list_ro, partS_none, lenSl_of, lenStr_of, cvInt_of, aminmax_max, aminmax_min, abin_add, abin_sub, abin_mul, abin_eql, abin_neq, abin_lss, abin_leq, abin_gtr, abin_geq, aunary_not, aextract], by simp [FT.get_set, FT.setL, faS_ptr, nilS_ptr, nilS_func, nilS_yield, pickS_bool, ldS_ptr, list_cells, list_ro, partS_none, lenSl_of, lenStr_of, cvInt_of, aminmax_max, aminmax_min, abin_add, abin_sub, abin_mul, abin_eql, abin_neq, abin_lss, abin_leq, abin_gtr, abin_geq, aunary_not, aextract], by simp [FT.get_set, FT.setL, faS_ptr, nilS_ptr, nilS_func, nilS_yield, pickS_bool, ldS_ptr, list_cells, list_ro, partS_none, lenSl_of, lenStr_of, cvInt_of, aminmax_max, aminmax_min, abin_add, abin_sub, abin_mul, abin_eql, abin_neq, abin_lss, abin_leq, abin_gtr, abin_geq, aunary_not, aextract], by simp [FT.get_set, FT.setL, faS_ptr, nilS_ptr, nilS_func, nilS_yield, pickS_bool, ldS_ptr, list_cells, list_ro, partS_none, lenSl_of, lenStr_of, cvInt_of, aminmax_max, aminmax_min, abin_add, abin_sub, abin_mul, abin_eql, abin_neq, abin_lss, abin_leq, abin_gtr, abin_geq, aunary_not, aextract], h0⟩
  · rintro m T S1 ⟨k, hk, t0, t8, t9, t10, hj⟩
    refine m_seq (m_reg ?_)
    rw [reg17_1]
    simp (decide := true) only [FT.get_set, FT.setL, faS_ptr, nilS_ptr, nilS_func, nilS_yield, pickS_bool, ldS_ptr, list_cells, list_ro, partS_none, lenSl_of, lenStr_of, cvInt_of, aminmax_max, aminmax_min, abin_add, abin_sub, abin_mul, abin_eql, abin_neq, abin_lss, abin_leq, abin_gtr, abin_geq, aunary_not, aextract, Option.some.injEq, Prod.mk.injEq, Value.bool.injEq, exists_eq_left', exists_and_left, and_assoc, decide_eq_true_eq, decide_eq_false_iff_not, if_true, if_false, Nat.zero_add, Nat.add_zero, Option.bind_some, true_and, and_true, forall_const, true_implies, Bool.not_eq_true, Bool.false_eq_true, false_implies, ite_self, Nat.mul_one, t0, t8, t9, t10]
    refine m_seq (m_cond (t := decide ((k : Int) < D.ws.length)) (by simp [evalT, FT.get_set, FT.setL, faS_ptr, nilS_ptr, nilS_func, nilS_yield, pickS_bool, ldS_ptr, list_cells, list_ro, partS_none, lenSl_of, lenStr_of, cvInt_of, aminmax_max, aminmax_min, abin_add, abin_sub, abin_mul, abin_eql, abin_neq, abin_lss, abin_leq, abin_gtr, abin_geq, aunary_not, aextract]) (fun h => ?_) (fun h => ?_))
    · have hlt : k < D.ws.length := by have := of_decide_eq_true h; omega
      refine m_skip ?_
      simp only
      obtain ⟨w, hw⟩ : ∃ w, D.ws[k]? = some w := ⟨_, List.getElem?_eq_getElem hlt⟩
      have hne : D.ws ≠ [] := fun e => by rw [e] at hlt; simp at hlt
      have hl0 : D.ws.length ≠ 0 := by omega
      have e1 : wsa D.wb D.ws.length = some ⟨D.wb, 0, none⟩ := by unfold wsa; rw [if_neg hl0]
      have hwb := hJ k S1 hj hne
      refine m_seq (m_block (m_seq (m_reg ?_)))
      rw [reg17_2]
      have hp : partS (some 2) (D.ws.flatMap wv) (k * 2) = some (.agg #[.int .i64 w.1, .pointer (some ⟨w.2, 0, none⟩)]) := by
        rw [partS_some _ _ _ (by rw [wv_len]; omega), wv_get _ _ _ hw]; rfl
      simp (decide := true) only [FT.get_set, FT.setL, faS_ptr, nilS_ptr, nilS_func, nilS_yield, pickS_bool, ldS_ptr, list_cells, list_ro, partS_none, lenSl_of, lenStr_of, cvInt_of, aminmax_max, aminmax_min, abin_add, abin_sub, abin_mul, abin_eql, abin_neq, abin_lss, abin_leq, abin_gtr, abin_geq, aunary_not, aextract, Option.some.injEq, Prod.mk.injEq, Value.bool.injEq, exists_eq_left', exists_and_left, and_assoc, decide_eq_true_eq, decide_eq_false_iff_not, if_true, if_false, Nat.zero_add, Nat.add_zero, Option.bind_some, true_and, and_true, forall_const, true_implies, Bool.not_eq_true, Bool.false_eq_true, false_implies, ite_self, Nat.mul_one, t0, t8, t9, t10, e1, iaSS_of (k := .i64) (i := (k : Int)) (by omega) (by omega : (k : Int) < (D.ws.length : Int)), list_of hwb, Int.toNat_natCast, hp, ptrTo]
      obtain ⟨S2, s1, s2, s3, s4⟩ := st_all (n := 2) (cs := #[.int .i64 w.1, .pointer (some ⟨w.2, 0, none⟩)]) (fresh_at S1 [.int .i64 0, .pointer none] 0) rfl rfl rfl
      have hS2 : S2 = S1.fresh (wv w) 0 := MS.ext (fun x => by
        by_cases e : x = S1.n
        · subst e; rw [s2, fresh_at]; rfl
        · rw [s4 x e, fresh_old _ _ _ e, fresh_old _ _ _ e]) (by rw [s3]; rfl)
      refine ⟨S2, s1, ?_⟩
      refine m_seq (m_reg ?_)
      rw [reg17_3]
      simp (decide := true) only [FT.get_set, FT.setL, faS_ptr, nilS_ptr, nilS_func, nilS_yield, pickS_bool, ldS_ptr, list_cells, list_ro, partS_none, lenSl_of, lenStr_of, cvInt_of, aminmax_max, aminmax_min, abin_add, abin_sub, abin_mul, abin_eql, abin_neq, abin_lss, abin_leq, abin_gtr, abin_geq, aunary_not, aextract, Option.some.injEq, Prod.mk.injEq, Value.bool.injEq, exists_eq_left', exists_and_left, and_assoc, decide_eq_true_eq, decide_eq_false_iff_not, if_true, if_false, Nat.zero_add, Nat.add_zero, Option.bind_some, true_and, and_true, forall_const, true_implies, Bool.not_eq_true, Bool.false_eq_true, false_implies, ite_self, Nat.mul_one, t0, t8, t9, t10, list_of s2, partS_two]
      have hr := step k S1 w hw hj
      rw [← hS2] at hr
      refine (CallV.mono (f := .func (.yield l) #[] #[]) (args := [.int .i64 k, .agg #[.int .i64 w.1, .pointer (some ⟨w.2, 0, none⟩)]]) hr ?_)
      intro v S3 hv
      rcases hv with ⟨rfl, hj2⟩ | ⟨rfl, hr2⟩
      · simp (decide := true) only [FT.get_set, FT.setL, faS_ptr, nilS_ptr, nilS_func, nilS_yield, pickS_bool, ldS_ptr, list_cells, list_ro, partS_none, lenSl_of, lenStr_of, cvInt_of, aminmax_max, aminmax_min, abin_add, abin_sub, abin_mul, abin_eql, abin_neq, abin_lss, abin_leq, abin_gtr, abin_geq, aunary_not, aextract, Option.some.injEq, Prod.mk.injEq, Value.bool.injEq, exists_eq_left', exists_and_left, and_assoc, decide_eq_true_eq, decide_eq_false_iff_not, if_true, if_false, Nat.zero_add, Nat.add_zero, Option.bind_some, true_and, and_true, forall_const, true_implies, Bool.not_eq_true, Bool.false_eq_true, false_implies, ite_self, Nat.mul_one, ]
        refine m_cond (t := false) (by simp [evalT, FT.get_set, FT.setL, faS_ptr, nilS_ptr, nilS_func, nilS_yield, pickS_bool, ldS_ptr, list_cells, list_ro, partS_none, lenSl_of, lenStr_of, cvInt_of, aminmax_max, aminmax_min, abin_add, abin_sub, abin_mul, abin_eql, abin_neq, abin_lss, abin_leq, abin_gtr, abin_geq, aunary_not, aextract]) (fun h => by cases h) (fun _ => ?_)
        refine m_skip ?_
        simp only
        refine m_reg ?_
        rw [reg17_4]
        simp (decide := true) only [FT.get_set, FT.setL, faS_ptr, nilS_ptr, nilS_func, nilS_yield, pickS_bool, ldS_ptr, list_cells, list_ro, partS_none, lenSl_of, lenStr_of, cvInt_of, aminmax_max, aminmax_min, abin_add, abin_sub, abin_mul, abin_eql, abin_neq, abin_lss, abin_leq, abin_gtr, abin_geq, aunary_not, aextract, Option.some.injEq, Prod.mk.injEq, Value.bool.injEq, exists_eq_left', exists_and_left, and_assoc, decide_eq_true_eq, decide_eq_false_iff_not, if_true, if_false, Nat.zero_add, Nat.add_zero, Option.bind_some, true_and, and_true, forall_const, true_implies, Bool.not_eq_true, Bool.false_eq_true, false_implies, ite_self, Nat.mul_one, t0, t8, t9, t10]
        exact ⟨m - 1, by omega, k + 1, by omega, by rw [e1], by rw [wrap_i64 (by omega) (by omega)]; rfl, hj2⟩
      · simp (decide := true) only [FT.get_set, FT.setL, faS_ptr, nilS_ptr, nilS_func, nilS_yield, pickS_bool, ldS_ptr, list_cells, list_ro, partS_none, lenSl_of, lenStr_of, cvInt_of, aminmax_max, aminmax_min, abin_add, abin_sub, abin_mul, abin_eql, abin_neq, abin_lss, abin_leq, abin_gtr, abin_geq, aunary_not, aextract, Option.some.injEq, Prod.mk.injEq, Value.bool.injEq, exists_eq_left', exists_and_left, and_assoc, decide_eq_true_eq, decide_eq_false_iff_not, if_true, if_false, Nat.zero_add, Nat.add_zero, Option.bind_some, true_and, and_true, forall_const, true_implies, Bool.not_eq_true, Bool.false_eq_true, false_implies, ite_self, Nat.mul_one, ]
        refine m_cond (t := true) (by simp [evalT, FT.get_set, FT.setL, faS_ptr, nilS_ptr, nilS_func, nilS_yield, pickS_bool, ldS_ptr, list_cells, list_ro, partS_none, lenSl_of, lenStr_of, cvInt_of, aminmax_max, aminmax_min, abin_add, abin_sub, abin_mul, abin_eql, abin_neq, abin_lss, abin_leq, abin_gtr, abin_geq, aunary_not, aextract]) (fun _ => ?_) (fun h => by cases h)
        refine m_ret ?_
        simp [resM]
        exact .inr hr2
    · refine m_exit ?_
      have : k = D.ws.length := by have := of_decide_eq_false h; omega
      subst this
      simp [resM]
      exact .inl hj
end Go.Proofs.Ytlepbifmkleoeaa
