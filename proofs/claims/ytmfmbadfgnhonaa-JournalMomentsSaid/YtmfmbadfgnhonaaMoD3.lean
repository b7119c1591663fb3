/-
  The walk through the journal's code: what its functions do to memory, part MoD3. Nothing is asked.
-/
import Derived.Test.YtmfmbadfgnhonaaMoD2
set_option linter.all false
namespace Go.Proofs.Ytmfmbadfgnhonaa
open Go Go.Ag
set_option linter.unusedVariables false
set_option maxRecDepth 100000

theorem wv_len : ∀ l : List (Nat × Nat), (l.flatMap wv).length = l.length * 2 := by
  intro l
  induction l with
  | nil => rfl
  | cons x l ih => simp only [List.flatMap_cons, List.length_append, ih, List.length_cons, wv]; simp; omega
theorem wv_get : ∀ (l : List (Nat × Nat)) (k : Nat) (w : Nat × Nat), l[k]? = some w → ((l.flatMap wv).drop (k * 2)).take 2 = wv w := by
  intro l
  induction l with
  | nil => intro k w h; simp at h
  | cons x l ih =>
    intro k w h
    cases k with
    | zero => simp at h; subst h; simp [wv]
    | succ k =>
      have := ih k w (by simpa using h)
      simp only [List.flatMap_cons]
      rw [show (k + 1) * 2 = (wv x).length + k * 2 by simp [wv]; omega, ← List.drop_drop, List.drop_left]
      exact this

/-- the writes one by one, told to a loop -/
theorem told46 {box d l : Nat} {D : DK} (hsmall : D.ws.length < 1000000) (J : Nat → MS → Prop) (R : MS → Prop) {S : MS} (h0 : J 0 S) (hbox : S.m box = some (.cells [.pointer (some ⟨d, 0, none⟩)] 0))
    {a b : Value} (hd : S.m d = some (.cells (diskL a b (.slice (wsa D.wb D.ws.length) D.ws.length (wsc D.ws.length)) D.halt D.cut) 0)) (hJ : ∀ k S, J k S → D.ws ≠ [] → S.m D.wb = some (.cells (D.ws.flatMap wv) 2))
    (step : ∀ k S w, D.ws[k]? = some w → J k S → RoundM Try.prog O l [.int .i64 k, .agg #[.int .i64 w.1, .pointer (some ⟨w.2, 0, none⟩)]] (S.fresh (wv w) 0) fun v S' => (v = .bool true ∧ J (k + 1) S') ∨ (v = .bool false ∧ R S')) :
    CallM Try.prog O 46 [.func (.yield l) #[] #[], .pointer (some ⟨box, 0, none⟩)] S fun _ S' => J D.ws.length S' ∨ R S' := by
  refine callM_body (fnIs is46 body46 res46) (O_none (by decide)) (by simp) ?_
  refine m_seq (m_reg ?_)
  rw [reg46_0]
  simp (decide := true) only [FT.get_set, FT.setL, faS_ptr, nilS_ptr, nilS_func, nilS_yield, pickS_bool, ldS_ptr, list_cells, list_ro, partS_none, lenSl_of, lenStr_of, cvInt_of, aminmax_max, aminmax_min, abin_add, abin_sub, abin_mul, abin_eql, abin_neq, abin_lss, abin_leq, abin_gtr, abin_geq, aunary_not, aextract, Option.some.injEq, Prod.mk.injEq, Value.bool.injEq, exists_eq_left', exists_and_left, and_assoc, decide_eq_true_eq, decide_eq_false_iff_not, if_true, if_false, Nat.zero_add, Nat.add_zero, Option.bind_some, true_and, and_true, forall_const, true_implies, Bool.not_eq_true, Bool.false_eq_true, false_implies, ite_self, Nat.mul_one, list_of hbox, list_of hd, dl0, dl1, dl2, dl3, dl4, dlen, ds2, ds3, ds4, List.getElem?_cons_zero]
  refine m_block (m_loop (fun m T S' => ∃ k : Nat, k + m = D.ws.length ∧ T.get 0 = .func (.yield l) #[] #[] ∧ T.get 8 = .slice (wsa D.wb D.ws.length) D.ws.length (wsc D.ws.length) ∧ T.get 9 = .int .i64 D.ws.length ∧ T.get 10 = .int .i64 k ∧ J k S') D.ws.length ?_ ?_)
  · exact ⟨0, by omega, by simp [FT.get_set, FT.setL, faS_ptr, nilS_ptr, nilS_func, nilS_yield, pickS_bool, ldS_ptr, list_cells, list_ro, partS_none, lenSl_of, lenStr_of, cvInt_of, aminmax_max, aminmax_min, abin_add, abin_sub, abin_mul, abin_eql, abin_neq, abin_lss, abin_leq, abin_gtr, abin_geq, aunary_not, aextract], by simp [FT.get_set, FT.setL, faS_ptr, nilS_ptr, nilS_func, nilS_yield, pickS_bool, ldS_ptr, list_cells, list_ro, partS_none, lenSl_of, lenStr_of, cvInt_of, aminmax_max, aminmax_min, abin_add, abin_sub, abin_mul, abin_eql, abin_neq, abin_lss, abin_leq, abin_gtr, abin_geq, aunary_not, aextract], by simp [FT.get_set, FT.setL, faS_ptr, nilS_ptr, nilS_func, nilS_yield, pickS_bool, ldS_ptr, list_cells, list_ro, partS_none, lenSl_of, lenStr_of, cvInt_of, aminmax_max, aminmax_min, abin_add, abin_sub, abin_mul, abin_eql, abin_neq, abin_lss, abin_leq, abin_gtr, abin_geq, aunary_not, aextract], by simp [FT.get_set, FT.setL, faS_ptr, nilS_ptr, nilS_func, nilS_yield, pickS_bool, ldS_ptr, list_cells, list_ro, partS_none, lenSl_of, lenStr_of, cvInt_of, aminmax_max, aminmax_min, abin_add, abin_sub, abin_mul, abin_eql, abin_neq, abin_lss, abin_leq, abin_gtr, abin_geq, aunary_not, aextract], h0⟩
  · rintro m T S1 ⟨k, hk, t0, t8, t9, t10, hj⟩
    refine m_seq (m_reg ?_)
    rw [reg46_1]
    simp (decide := true) only [FT.get_set, FT.setL, faS_ptr, nilS_ptr, nilS_func, nilS_yield, pickS_bool, ldS_ptr, list_cells, list_ro, partS_none, lenSl_of, lenStr_of, cvInt_of, aminmax_max, aminmax_min, abin_add, abin_sub, abin_mul, abin_eql, abin_neq, abin_lss, abin_leq, abin_gtr, abin_geq, aunary_not, aextract, Option.some.injEq, Prod.mk.injEq, Value.bool.injEq, exists_eq_left', exists_and_left, and_assoc, decide_eq_true_eq, decide_eq_false_iff_not, if_true, if_false, Nat.zero_add, Nat.add_zero, Option.bind_some, true_and, and_true, forall_const, true_implies, Bool.not_eq_true, Bool.false_eq_true, false_implies, ite_self, Nat.mul_one, t0, t8, t9, t10]
    refine m_seq (m_cond (t := decide ((k : Int) < D.ws.length)) (by simp [evalT, FT.get_set, FT.setL, faS_ptr, nilS_ptr, nilS_func, nilS_yield, pickS_bool, ldS_ptr, list_cells, list_ro, partS_none, lenSl_of, lenStr_of, cvInt_of, aminmax_max, aminmax_min, abin_add, abin_sub, abin_mul, abin_eql, abin_neq, abin_lss, abin_leq, abin_gtr, abin_geq, aunary_not, aextract]) (fun h => ?_) (fun h => ?_))
    · have hlt : k < D.ws.length := by have := of_decide_eq_true h; omega
      refine m_skip ?_
      simp only
      obtain ⟨w, hw⟩ : ∃ w, D.ws[k]? = some w := ⟨_, List.getElem?_eq_getElem hlt⟩
      have hne : D.ws ≠ [] := fun e => by rw [e] at hlt; simp at hlt
      have hl0 : D.ws.length ≠ 0 := by omega
      have e1 : wsa D.wb D.ws.length = some ⟨D.wb, 0, none⟩ := by unfold wsa; rw [if_neg hl0]
      have hwb := hJ k S1 hj hne
      refine m_seq (m_block (m_seq (m_reg ?_)))
      rw [reg46_2]
      have hp : partS (some 2) (D.ws.flatMap wv) (k * 2) = some (.agg #[.int .i64 w.1, .pointer (some ⟨w.2, 0, none⟩)]) := by
        rw [partS_some _ _ _ (by rw [wv_len]; omega), wv_get _ _ _ hw]; rfl
      simp (decide := true) only [FT.get_set, FT.setL, faS_ptr, nilS_ptr, nilS_func, nilS_yield, pickS_bool, ldS_ptr, list_cells, list_ro, partS_none, lenSl_of, lenStr_of, cvInt_of, aminmax_max, aminmax_min, abin_add, abin_sub, abin_mul, abin_eql, abin_neq, abin_lss, abin_leq, abin_gtr, abin_geq, aunary_not, aextract, Option.some.injEq, Prod.mk.injEq, Value.bool.injEq, exists_eq_left', exists_and_left, and_assoc, decide_eq_true_eq, decide_eq_false_iff_not, if_true, if_false, Nat.zero_add, Nat.add_zero, Option.bind_some, true_and, and_true, forall_const, true_implies, Bool.not_eq_true, Bool.false_eq_true, false_implies, ite_self, Nat.mul_one, t0, t8, t9, t10, e1, iaSS_of (k := .i64) (i := (k : Int)) (by omega) (by omega : (k : Int) < (D.ws.length : Int)), list_of hwb, Int.toNat_natCast, hp, ptrTo]
      obtain ⟨S2, s1, s2, s3, s4⟩ := st_all (n := 2) (cs := #[.int .i64 w.1, .pointer (some ⟨w.2, 0, none⟩)]) (fresh_at S1 [.int .i64 0, .pointer none] 0) rfl rfl rfl
      have hS2 : S2 = S1.fresh (wv w) 0 := MS.ext (fun x => by
        by_cases e : x = S1.n
        · subst e; rw [s2, fresh_at]; rfl
        · rw [s4 x e, fresh_old _ _ _ e, fresh_old _ _ _ e]) (by rw [s3]; rfl)
      refine ⟨S2, s1, ?_⟩
      refine m_seq (m_reg ?_)
      rw [reg46_3]
      simp (decide := true) only [FT.get_set, FT.setL, faS_ptr, nilS_ptr, nilS_func, nilS_yield, pickS_bool, ldS_ptr, list_cells, list_ro, partS_none, lenSl_of, lenStr_of, cvInt_of, aminmax_max, aminmax_min, abin_add, abin_sub, abin_mul, abin_eql, abin_neq, abin_lss, abin_leq, abin_gtr, abin_geq, aunary_not, aextract, Option.some.injEq, Prod.mk.injEq, Value.bool.injEq, exists_eq_left', exists_and_left, and_assoc, decide_eq_true_eq, decide_eq_false_iff_not, if_true, if_false, Nat.zero_add, Nat.add_zero, Option.bind_some, true_and, and_true, forall_const, true_implies, Bool.not_eq_true, Bool.false_eq_true, false_implies, ite_self, Nat.mul_one, t0, t8, t9, t10, list_of s2, partS_two]
      have hr := step k S1 w hw hj
      rw [← hS2] at hr
      refine (CallV.mono (f := .func (.yield l) #[] #[]) (args := [.int .i64 k, .agg #[.int .i64 w.1, .pointer (some ⟨w.2, 0, none⟩)]]) hr ?_)
      intro v S3 hv
      rcases hv with ⟨rfl, hj2⟩ | ⟨rfl, hr2⟩
      · simp (decide := true) only [FT.get_set, FT.setL, faS_ptr, nilS_ptr, nilS_func, nilS_yield, pickS_bool, ldS_ptr, list_cells, list_ro, partS_none, lenSl_of, lenStr_of, cvInt_of, aminmax_max, aminmax_min, abin_add, abin_sub, abin_mul, abin_eql, abin_neq, abin_lss, abin_leq, abin_gtr, abin_geq, aunary_not, aextract, Option.some.injEq, Prod.mk.injEq, Value.bool.injEq, exists_eq_left', exists_and_left, and_assoc, decide_eq_true_eq, decide_eq_false_iff_not, if_true, if_false, Nat.zero_add, Nat.add_zero, Option.bind_some, true_and, and_true, forall_const, true_implies, Bool.not_eq_true, Bool.false_eq_true, false_implies, ite_self, Nat.mul_one, ]
        refine m_cond (t := false) (by simp [evalT, FT.get_set, FT.setL, faS_ptr, nilS_ptr, nilS_func, nilS_yield, pickS_bool, ldS_ptr, list_cells, list_ro, partS_none, lenSl_of, lenStr_of, cvInt_of, aminmax_max, aminmax_min, abin_add, abin_sub, abin_mul, abin_eql, abin_neq, abin_lss, abin_leq, abin_gtr, abin_geq, aunary_not, aextract]) (fun h => by cases h) (fun _ => ?_)
        refine m_skip ?_
        simp only
        refine m_reg ?_
        rw [reg46_4]
        simp (decide := true) only [FT.get_set, FT.setL, faS_ptr, nilS_ptr, nilS_func, nilS_yield, pickS_bool, ldS_ptr, list_cells, list_ro, partS_none, lenSl_of, lenStr_of, cvInt_of, aminmax_max, aminmax_min, abin_add, abin_sub, abin_mul, abin_eql, abin_neq, abin_lss, abin_leq, abin_gtr, abin_geq, aunary_not, aextract, Option.some.injEq, Prod.mk.injEq, Value.bool.injEq, exists_eq_left', exists_and_left, and_assoc, decide_eq_true_eq, decide_eq_false_iff_not, if_true, if_false, Nat.zero_add, Nat.add_zero, Option.bind_some, true_and, and_true, forall_const, true_implies, Bool.not_eq_true, Bool.false_eq_true, false_implies, ite_self, Nat.mul_one, t0, t8, t9, t10]
        exact ⟨m - 1, by omega, k + 1, by omega, by rw [e1], by rw [wrap_i64 (by omega) (by omega)]; rfl, hj2⟩
      · simp (decide := true) only [FT.get_set, FT.setL, faS_ptr, nilS_ptr, nilS_func, nilS_yield, pickS_bool, ldS_ptr, list_cells, list_ro, partS_none, lenSl_of, lenStr_of, cvInt_of, aminmax_max, aminmax_min, abin_add, abin_sub, abin_mul, abin_eql, abin_neq, abin_lss, abin_leq, abin_gtr, abin_geq, aunary_not, aextract, Option.some.injEq, Prod.mk.injEq, Value.bool.injEq, exists_eq_left', exists_and_left, and_assoc, decide_eq_true_eq, decide_eq_false_iff_not, if_true, if_false, Nat.zero_add, Nat.add_zero, Option.bind_some, true_and, and_true, forall_const, true_implies, Bool.not_eq_true, Bool.false_eq_true, false_implies, ite_self, Nat.mul_one, ]
        refine m_cond (t := true) (by simp [evalT, FT.get_set, FT.setL, faS_ptr, nilS_ptr, nilS_func, nilS_yield, pickS_bool, ldS_ptr, list_cells, list_ro, partS_none, lenSl_of, lenStr_of, cvInt_of, aminmax_max, aminmax_min, abin_add, abin_sub, abin_mul, abin_eql, abin_neq, abin_lss, abin_leq, abin_gtr, abin_geq, aunary_not, aextract]) (fun _ => ?_) (fun h => by cases h)
        refine m_ret ?_
        simp [resM]
        exact .inr hr2
    · refine m_exit ?_
      have : k = D.ws.length := by have := of_decide_eq_false h; omega
      subst this
      simp [resM]
      exact .inl hj
end Go.Proofs.Ytmfmbadfgnhonaa
namespace Go.Proofs.Ytmfmbadfgnhonaa
open Go Go.Ag
set_option linter.unusedVariables false
set_option maxRecDepth 100000

theorem told42 {S : MS} {d : Nat} : CallM Try.prog O 42 [.pointer (some ⟨d, 0, none⟩)] S fun v S' => v = .func (.func 46) #[] #[.pointer (some ⟨S.n, 0, none⟩)] ∧ S' = S.fresh [.pointer (some ⟨d, 0, none⟩)] 0 := by
  refine callM_body (fnIs is42 body42 res42) (O_none (by decide)) (by simp) ?_
  refine m_seq (m_reg ?_)
  rw [reg42_0]
  refine m_seq (m_reg ?_)
  rw [reg42_1]
  refine m_ret ?_
  simp [resM, FT.get_set, FT.setL, faS_ptr, nilS_ptr, nilS_func, nilS_yield, pickS_bool, ldS_ptr, list_cells, list_ro, partS_none, lenSl_of, lenStr_of, cvInt_of, aminmax_max, aminmax_min, abin_add, abin_sub, abin_mul, abin_eql, abin_neq, abin_lss, abin_leq, abin_gtr, abin_geq, aunary_not, aextract, oneOrTuple, ptrTo, cells_ptr]

/-- blocks behind writes -/
def applyW (m : List (Option Nat)) (ws : List (Nat × Nat)) : List (Option Nat) := ws.foldl (fun m w => m.set w.1 (some w.2)) m
theorem applyW_len (ws : List (Nat × Nat)) : ∀ m, (applyW m ws).length = m.length := by
  induction ws with
  | nil => intro m; rfl
  | cons w ws ih => intro m; show (applyW (m.set w.1 (some w.2)) ws).length = _; rw [ih]; simp
theorem applyW_take (m : List (Option Nat)) (ws : List (Nat × Nat)) (k : Nat) (w : Nat × Nat) (h : ws[k]? = some w) : applyW m (ws.take (k + 1)) = (applyW m (ws.take k)).set w.1 (some w.2) := by
  rw [List.take_succ, h]
  simp [applyW]

def atDK (D : DK) (n a b : Nat) : DK := ⟨a, b, 0, applyW D.made (D.ws.take n), applyW D.made (D.ws.take n), [], -1, false⟩
theorem at23 {S : MS} {d : Nat} {D : DK} (h : IsD S d D) (n : Nat) (hn : n ≤ D.ws.length) (hws : D.ws.length < 1000000) (hidx : ∀ w ∈ D.ws, w.1 < D.made.length) (h1 : 1 ≤ D.made.length) {Q : Value → MS → Prop}
    (hq : ∀ c a b S', IsD S' c (atDK D n a b) → S.n ≤ c → S.n ≤ a → S.n ≤ b → S.n ≤ S'.n → (∀ x, x < S.n → S'.m x = S.m x) → Q (.tuple #[.pointer (some ⟨c, 0, none⟩), .int .i64 0]) S') :
    CallM Try.prog O 23 [.pointer (some ⟨d, 0, none⟩), .int .i64 n] S Q := by
  refine callM_wf fun wf => ?_
  refine callM_body (fnIs is23 body23 res23) (O_none (by decide)) (by simp) ?_
  refine m_seq (m_reg ?_)
  rw [reg23_0]
  simp (decide := true) only [FT.get_set, FT.setL, faS_ptr, nilS_ptr, nilS_func, nilS_yield, pickS_bool, ldS_ptr, list_cells, list_ro, partS_none, lenSl_of, lenStr_of, cvInt_of, aminmax_max, aminmax_min, abin_add, abin_sub, abin_mul, abin_eql, abin_neq, abin_lss, abin_leq, abin_gtr, abin_geq, aunary_not, aextract, Option.some.injEq, Prod.mk.injEq, Value.bool.injEq, exists_eq_left', exists_and_left, and_assoc, decide_eq_true_eq, decide_eq_false_iff_not, if_true, if_false, Nat.zero_add, Nat.add_zero, Option.bind_some, true_and, and_true, forall_const, true_implies, Bool.not_eq_true, Bool.false_eq_true, false_implies, ite_self, Nat.mul_one, cells_int, ptrTo]
  refine m_scope (m_seq (m_seq (m_draw ?_)))
  rw [reg23_1]
  have hdlt := wf _ _ h.hd
  have hmlt := wf _ _ h.hm
  have hd1 := (fresh_old S [.int .i64 n] 0 (Nat.ne_of_lt hdlt)).trans h.hd
  simp (decide := true) only [FT.get_set, FT.setL, faS_ptr, nilS_ptr, nilS_func, nilS_yield, pickS_bool, ldS_ptr, list_cells, list_ro, partS_none, lenSl_of, lenStr_of, cvInt_of, aminmax_max, aminmax_min, abin_add, abin_sub, abin_mul, abin_eql, abin_neq, abin_lss, abin_leq, abin_gtr, abin_geq, aunary_not, aextract, Option.some.injEq, Prod.mk.injEq, Value.bool.injEq, exists_eq_left', exists_and_left, and_assoc, decide_eq_true_eq, decide_eq_false_iff_not, if_true, if_false, Nat.zero_add, Nat.add_zero, Option.bind_some, true_and, and_true, forall_const, true_implies, Bool.not_eq_true, Bool.false_eq_true, false_implies, ite_self, Nat.mul_one, list_of (fresh_at S [.int .i64 n] 0), List.getElem?_cons_zero, list_of hd1, dl0, dl1, dl2, dl3, dl4, dlen, ds2, ds3, ds4]
  refine ⟨fun hneg => absurd (hneg : (n : Int) < 0) (by omega), fun hpos => ?_⟩
  refine m_cond (t := false) ?_ (fun h => by cases h) (fun _ => ?_)
  · have h3 : ¬ (D.ws.length : Int) < n := by omega
    have h4 : ¬ (n : Int) < 0 := by omega
    simp [evalT, FT.get_set, FT.setL, faS_ptr, nilS_ptr, nilS_func, nilS_yield, pickS_bool, ldS_ptr, list_cells, list_ro, partS_none, lenSl_of, lenStr_of, cvInt_of, aminmax_max, aminmax_min, abin_add, abin_sub, abin_mul, abin_eql, abin_neq, abin_lss, abin_leq, abin_gtr, abin_geq, aunary_not, aextract, h4]; omega
  refine m_skip ?_
  simp only
  -- made
  refine m_seq (m_reg ?_)
  rw [reg23_3]
  simp (decide := true) only [FT.get_set, FT.setL, faS_ptr, nilS_ptr, nilS_func, nilS_yield, pickS_bool, ldS_ptr, list_cells, list_ro, partS_none, lenSl_of, lenStr_of, cvInt_of, aminmax_max, aminmax_min, abin_add, abin_sub, abin_mul, abin_eql, abin_neq, abin_lss, abin_leq, abin_gtr, abin_geq, aunary_not, aextract, Option.some.injEq, Prod.mk.injEq, Value.bool.injEq, exists_eq_left', exists_and_left, and_assoc, decide_eq_true_eq, decide_eq_false_iff_not, if_true, if_false, Nat.zero_add, Nat.add_zero, Option.bind_some, true_and, and_true, forall_const, true_implies, Bool.not_eq_true, Bool.false_eq_true, false_implies, ite_self, Nat.mul_one, list_of hd1, dl0, dl1, dl2, dl3, dl4, dlen, ds2, ds3, ds4, msS_of (n := D.made.length) (S.fresh [.int .i64 n] 0) 1 8 [.pointer none] .i64 .i64 (by have := h.small; omega) (by have := h.small; omega), ptrTo, fresh_n]
  obtain ⟨S1, s1, s2, s3, s4⟩ := st_one (off := 0) (v := .slice (some ⟨S.n + 1, 0, none⟩) D.made.length D.made.length) (fresh_at ((S.fresh [.int .i64 n] 0).fresh (zeros [.pointer none] D.made.length) 1) [.slice none 0 0] 0) (by decide) rfl rfl
  simp only [fresh_n] at s1 s2 s3 s4
  refine ⟨S1, s1, ?_⟩
  have f1 : ∀ x, x < S.n → S1.m x = S.m x := fun x hx => by
    rw [s4 x (by omega), fresh_old _ _ _ (by simp only [fresh_n]; omega), fresh_old _ _ _ (by simp only [fresh_n]; omega), fresh_old _ _ _ (by omega)]
  have mk1 : S1.m (S.n + 1) = some (.cells (zeros [.pointer none] D.made.length) 1) := by
    rw [s4 _ (by omega), fresh_old _ _ _ (by simp only [fresh_n]; omega)]
    exact fresh_at (S.fresh [.int .i64 n] 0) _ _
  have vb1 : S1.m S.n = some (.cells [.int .i64 n] 0) := by
    rw [s4 _ (by omega), fresh_old _ _ _ (by simp only [fresh_n]; omega), fresh_old _ _ _ (by simp only [fresh_n]; omega), fresh_at]
  refine m_seq (m_draw ?_)
  rw [reg23_4]
  have hd2 := (f1 d hdlt).trans h.hd
  have hm2 := (f1 D.mb hmlt).trans h.hm
  have hcp : ∃ S2, cpS 1 S1 [.slice (some ⟨S.n + 1, 0, none⟩) D.made.length D.made.length, .slice (some ⟨D.mb, 0, none⟩) D.made.length D.made.length] = some (goInt D.made.length, S2) ∧ S2.m (S.n + 1) = some (.cells (D.made.map pv) 1) ∧ S2.n = S1.n ∧ ∀ x, x ≠ S.n + 1 → S2.m x = S1.m x := by
    refine cp_all mk1 rfl (by omega) ?_ (by simp) (by rw [zeros_len]; simp) ?_
    · rw [first_of (list_of hm2) (Nat.le_refl _) (by omega) (by simp)]; simp [List.take_of_length_le]
    · rw [List.all_eq_true]; intro v hv
      obtain ⟨o, _, rfl⟩ := List.mem_map.1 hv
      cases o <;> rfl
  obtain ⟨S2, c1, c2, c3, c4⟩ := hcp
  have s2' : S1.m (S.n + 1 + 1) = some (.cells [.slice (some ⟨S.n + 1, 0, none⟩) D.made.length D.made.length] 0) := s2
  simp (decide := true) only [FT.get_set, FT.setL, faS_ptr, nilS_ptr, nilS_func, nilS_yield, pickS_bool, ldS_ptr, list_cells, list_ro, partS_none, lenSl_of, lenStr_of, cvInt_of, aminmax_max, aminmax_min, abin_add, abin_sub, abin_mul, abin_eql, abin_neq, abin_lss, abin_leq, abin_gtr, abin_geq, aunary_not, aextract, Option.some.injEq, Prod.mk.injEq, Value.bool.injEq, exists_eq_left', exists_and_left, and_assoc, decide_eq_true_eq, decide_eq_false_iff_not, if_true, if_false, Nat.zero_add, Nat.add_zero, Option.bind_some, true_and, and_true, forall_const, true_implies, Bool.not_eq_true, Bool.false_eq_true, false_implies, ite_self, Nat.mul_one, list_of s2', List.getElem?_cons_zero, list_of hd2, dl0, dl1, dl2, dl3, dl4, dlen, ds2, ds3, ds4]
  refine ⟨_, S2, c1, ?_⟩
  have f2 : ∀ x, x < S.n → S2.m x = S.m x := fun x hx => by rw [c4 x (by omega), f1 x hx]
  have vb2 : S2.m S.n = some (.cells [.int .i64 n] 0) := by rw [c4 _ (by omega)]; exact vb1
  have mv2 : S2.m (S.n + 2) = some (.cells [.slice (some ⟨S.n + 1, 0, none⟩) D.made.length D.made.length] 0) := by rw [c4 _ (by omega)]; exact s2
  have hn2 : S2.n = S.n + 3 := by rw [c3, s3]
  refine m_seq (m_label ?_)
  simp only
  refine m_seq (m_seq (m_reg ?_))
  rw [reg23_5]
  simp (decide := true) only [FT.get_set, FT.setL, faS_ptr, nilS_ptr, nilS_func, nilS_yield, pickS_bool, ldS_ptr, list_cells, list_ro, partS_none, lenSl_of, lenStr_of, cvInt_of, aminmax_max, aminmax_min, abin_add, abin_sub, abin_mul, abin_eql, abin_neq, abin_lss, abin_leq, abin_gtr, abin_geq, aunary_not, aextract, Option.some.injEq, Prod.mk.injEq, Value.bool.injEq, exists_eq_left', exists_and_left, and_assoc, decide_eq_true_eq, decide_eq_false_iff_not, if_true, if_false, Nat.zero_add, Nat.add_zero, Option.bind_some, true_and, and_true, forall_const, true_implies, Bool.not_eq_true, Bool.false_eq_true, false_implies, ite_self, Nat.mul_one, ]
  refine told42.mono fun v S3 hv => ?_
  obtain ⟨rfl, rfl⟩ := hv
  -- the loop
  have hbx : (S2.fresh [.pointer (some ⟨d, 0, none⟩)] 0).m S2.n = _ := fresh_at _ _ _
  have loop : ∀ T, T.get 3 = .pointer (some ⟨S.n, 0, none⟩) → T.get 6 = .pointer (some ⟨S.n + 2, 0, none⟩) → T.get 34 = .func (.func 46) #[] #[.pointer (some ⟨S2.n, 0, none⟩)] →
      MWp Try.prog O 56 (.block 0 (.rangeFunc (.tmp 34) #[35, 36] (.seq (.region 6 (ro 23 6) false) (.region 7 (ro 23 7) false)) (.block 1 (.seq (.seq (.region 8 (ro 23 8) false) (.cond (.tmp 39) (.exit 0) .skip)) (.region 9 (ro 23 9) false))))) T (S2.fresh [.pointer (some ⟨d, 0, none⟩)] 0)
        fun x T' S' => x = .normal ∧ T' = T ∧ S'.m (S.n + 1) = some (.cells ((applyW D.made (D.ws.take n)).map pv) 1) ∧ S'.m (S.n + 2) = some (.cells [.slice (some ⟨S.n + 1, 0, none⟩) D.made.length D.made.length] 0) ∧ S2.n ≤ S'.n ∧ ∀ x, x < S.n → S'.m x = S.m x := by
    intro T t3 t6 t34
    refine m_block (m_rangeFunc rfl ?_)
    have e34 : evalT T (.tmp 34) = .func (.func 46) #[] #[.pointer (some ⟨S2.n, 0, none⟩)] := t34
    rw [e34]
    show CallM Try.prog O 46 [.func (.yield (S2.n + 1)) #[] #[], .pointer (some ⟨S2.n, 0, none⟩)] _ _
    let J : Nat → MS → Prop := fun k S' => k ≤ n ∧ S'.m (S2.n + 1) = some (.loop ⟨.ready, none, ⟨T, 56⟩, [35, 36], (.seq (.region 6 (ro 23 6) false) (.region 7 (ro 23 7) false)), (.block 1 (.seq (.seq (.region 8 (ro 23 8) false) (.cond (.tmp 39) (.exit 0) .skip)) (.region 9 (ro 23 9) false)))⟩) ∧
      S'.m S.n = some (.cells [.int .i64 n] 0) ∧ S'.m (S.n + 2) = some (.cells [.slice (some ⟨S.n + 1, 0, none⟩) D.made.length D.made.length] 0) ∧ S'.m (S.n + 1) = some (.cells ((applyW D.made (D.ws.take k)).map pv) 1) ∧ S2.n + 2 ≤ S'.n ∧ ∀ x, x < S.n → S'.m x = S.m x
    let R : MS → Prop := fun S' => S'.m (S2.n + 1) = some (.loop ⟨.done, some (.exit 0), ⟨T, 56⟩, [35, 36], (.seq (.region 6 (ro 23 6) false) (.region 7 (ro 23 7) false)), (.block 1 (.seq (.seq (.region 8 (ro 23 8) false) (.cond (.tmp 39) (.exit 0) .skip)) (.region 9 (ro 23 9) false)))⟩) ∧
      S'.m (S.n + 2) = some (.cells [.slice (some ⟨S.n + 1, 0, none⟩) D.made.length D.made.length] 0) ∧ S'.m (S.n + 1) = some (.cells ((applyW D.made (D.ws.take n)).map pv) 1) ∧ S2.n + 2 ≤ S'.n ∧ ∀ x, x < S.n → S'.m x = S.m x
    have step : ∀ k S' w, D.ws[k]? = some w → J k S' → RoundM Try.prog O (S2.n + 1) [.int .i64 k, .agg #[.int .i64 w.1, .pointer (some ⟨w.2, 0, none⟩)]] (S'.fresh (wv w) 0) fun v S' => (v = .bool true ∧ J (k + 1) S') ∨ (v = .bool false ∧ R S') := by
      rintro k S' w hw ⟨j0, j1, j2, j3, j4, j5, j6⟩
      have hlen : w.1 < D.made.length := hidx w (List.mem_of_getElem? hw)
      refine roundM_body (T := (T.set (.int .i64 k) 35).set (.agg #[.int .i64 w.1, .pointer (some ⟨w.2, 0, none⟩)]) 36) ((fresh_old _ _ _ (by omega)).trans j1) rfl ?_
      refine m_seq (m_reg ?_)
      rw [reg23_6]
      refine m_reg ?_
      rw [reg23_7]
      simp (decide := true) only [FT.get_set, FT.setL, faS_ptr, nilS_ptr, nilS_func, nilS_yield, pickS_bool, ldS_ptr, list_cells, list_ro, partS_none, lenSl_of, lenStr_of, cvInt_of, aminmax_max, aminmax_min, abin_add, abin_sub, abin_mul, abin_eql, abin_neq, abin_lss, abin_leq, abin_gtr, abin_geq, aunary_not, aextract, Option.some.injEq, Prod.mk.injEq, Value.bool.injEq, exists_eq_left', exists_and_left, and_assoc, decide_eq_true_eq, decide_eq_false_iff_not, if_true, if_false, Nat.zero_add, Nat.add_zero, Option.bind_some, true_and, and_true, forall_const, true_implies, Bool.not_eq_true, Bool.false_eq_true, false_implies, ite_self, Nat.mul_one, ptrTo]
      obtain ⟨S4, s1, s2, s3, s4⟩ := st_all (n := 2) (cs := #[.int .i64 w.1, .pointer (some ⟨w.2, 0, none⟩)]) (fresh_at (S'.fresh (wv w) 0) [.int .i64 0, .pointer none] 0) rfl rfl rfl
      simp only [fresh_n] at s1 s2 s3 s4
      simp only [fresh_n]
      refine ⟨S4, s1, ?_⟩
      have f4 : ∀ x, x < S'.n → S4.m x = S'.m x := fun x hx => by rw [s4 x (by omega), fresh_old _ _ _ (by rw [fresh_n]; omega), fresh_old _ _ _ (by omega)]
      refine ⟨_, (f4 _ (by omega)).trans j1, rfl, ?_⟩
      -- the body
      have g2 : ∀ L, (S4.set (S2.n + 1) (.loop L)).m S.n = some (.cells [.int .i64 n] 0) := fun L => by rw [set_m, if_neg (by omega), f4 _ (by omega)]; exact j2
      have g3 : ∀ L, (S4.set (S2.n + 1) (.loop L)).m (S.n + 2) = some (.cells [.slice (some ⟨S.n + 1, 0, none⟩) D.made.length D.made.length] 0) := fun L => by rw [set_m, if_neg (by omega), f4 _ (by omega)]; exact j3
      have g4 : ∀ L, (S4.set (S2.n + 1) (.loop L)).m (S.n + 1) = some (.cells ((applyW D.made (D.ws.take k)).map pv) 1) := fun L => by rw [set_m, if_neg (by omega), f4 _ (by omega)]; exact j4
      have g5 : ∀ L, (S4.set (S2.n + 1) (.loop L)).m (S'.n + 1) = some (.cells [.int .i64 w.1, .pointer (some ⟨w.2, 0, none⟩)] 0) := fun L => by rw [set_m, if_neg (by omega)]; exact s2
      refine m_block (m_seq (m_seq (m_reg ?_)))
      rw [reg23_8]
      simp (decide := true) only [FT.get_set, FT.setL, faS_ptr, nilS_ptr, nilS_func, nilS_yield, pickS_bool, ldS_ptr, list_cells, list_ro, partS_none, lenSl_of, lenStr_of, cvInt_of, aminmax_max, aminmax_min, abin_add, abin_sub, abin_mul, abin_eql, abin_neq, abin_lss, abin_leq, abin_gtr, abin_geq, aunary_not, aextract, Option.some.injEq, Prod.mk.injEq, Value.bool.injEq, exists_eq_left', exists_and_left, and_assoc, decide_eq_true_eq, decide_eq_false_iff_not, if_true, if_false, Nat.zero_add, Nat.add_zero, Option.bind_some, true_and, and_true, forall_const, true_implies, Bool.not_eq_true, Bool.false_eq_true, false_implies, ite_self, Nat.mul_one, t3, list_of (g2 _), List.getElem?_cons_zero]
      refine m_cond (t := (k : Int) == n) (by simp [evalT, FT.get_set, FT.setL, faS_ptr, nilS_ptr, nilS_func, nilS_yield, pickS_bool, ldS_ptr, list_cells, list_ro, partS_none, lenSl_of, lenStr_of, cvInt_of, aminmax_max, aminmax_min, abin_add, abin_sub, abin_mul, abin_eql, abin_neq, abin_lss, abin_leq, abin_gtr, abin_geq, aunary_not, aextract]) (fun he => ?_) (fun hne => ?_)
      · have he : k = n := by simp at he; omega
        subst he
        refine m_exit ?_
        simp only
        rw [if_neg (by decide)]
        refine ⟨_, by rw [set_m, if_pos rfl], ?_⟩
        refine .inr ⟨rfl, ?_, ?_, ?_, ?_, fun x hx => ?_⟩
        · rw [set_m, if_pos rfl]; rfl
        · rw [set_m, if_neg (by omega)]; exact g3 _
        · rw [set_m, if_neg (by omega)]; exact g4 _
        · simp only [set_n]; omega
        · rw [set_m, if_neg (by omega), set_m, if_neg (by omega), f4 x (by omega)]; exact j6 x hx
      · have hne : k ≠ n := by simp at hne; omega
        refine m_skip ?_
        simp only
        refine m_reg ?_
        rw [reg23_9]
        simp (decide := true) only [FT.get_set, FT.setL, faS_ptr, nilS_ptr, nilS_func, nilS_yield, pickS_bool, ldS_ptr, list_cells, list_ro, partS_none, lenSl_of, lenStr_of, cvInt_of, aminmax_max, aminmax_min, abin_add, abin_sub, abin_mul, abin_eql, abin_neq, abin_lss, abin_leq, abin_gtr, abin_geq, aunary_not, aextract, Option.some.injEq, Prod.mk.injEq, Value.bool.injEq, exists_eq_left', exists_and_left, and_assoc, decide_eq_true_eq, decide_eq_false_iff_not, if_true, if_false, Nat.zero_add, Nat.add_zero, Option.bind_some, true_and, and_true, forall_const, true_implies, Bool.not_eq_true, Bool.false_eq_true, false_implies, ite_self, Nat.mul_one, t6, list_of (g3 _), list_of (g5 _), List.getElem?_cons_zero, List.getElem?_cons_succ, iaSS_of (k := .i64) (i := (w.1 : Int)) (by omega) (by omega : (w.1 : Int) < (D.made.length : Int)), Int.toNat_natCast]
        obtain ⟨S5, u1, u2, u3, u4⟩ := st_one (off := w.1) (v := .pointer (some ⟨w.2, 0, none⟩)) (g4 ⟨.busy, none, ⟨T, 56⟩, [35, 36], (.seq (.region 6 (ro 23 6) false) (.region 7 (ro 23 7) false)), (.block 1 (.seq (.seq (.region 8 (ro 23 8) false) (.cond (.tmp 39) (.exit 0) .skip)) (.region 9 (ro 23 9) false)))⟩) (by rw [List.length_map, applyW_len]; exact hlen) rfl rfl
        refine ⟨S5, u1, ?_⟩
        refine ⟨_, (u4 _ (by omega)).trans (by rw [set_m, if_pos rfl]), ?_⟩
        refine .inl ⟨by omega, ?_, ?_, ?_, ?_, ?_, fun x hx => ?_⟩
        · rw [set_m, if_pos rfl]; rfl
        · rw [set_m, if_neg (by omega), u4 _ (by omega)]; exact g2 _
        · rw [set_m, if_neg (by omega), u4 _ (by omega)]; exact g3 _
        · rw [set_m, if_neg (by omega), u2, applyW_take _ _ _ _ hw, List.map_set]; rfl
        · simp only [set_n]; rw [u3, set_n]; omega
        · rw [set_m, if_neg (by omega), u4 _ (by omega), set_m, if_neg (by omega), f4 x (by omega)]; exact j6 x hx
    have hpu : ∀ x k, x ≠ S2.n + 1 → ((S2.fresh [.pointer (some ⟨d, 0, none⟩)] 0).push k).m x = (S2.fresh [.pointer (some ⟨d, 0, none⟩)] 0).m x := fun x k hx => by rw [push_m, if_neg (by rw [fresh_n]; exact hx)]
    have j0 : J 0 ((S2.fresh [.pointer (some ⟨d, 0, none⟩)] 0).push (.loop ⟨.ready, none, ⟨T, 56⟩, [35, 36], (.seq (.region 6 (ro 23 6) false) (.region 7 (ro 23 7) false)), (.block 1 (.seq (.seq (.region 8 (ro 23 8) false) (.cond (.tmp 39) (.exit 0) .skip)) (.region 9 (ro 23 9) false)))⟩)) := by
      refine ⟨Nat.zero_le _, by rw [push_m, fresh_n, if_pos rfl], ?_, ?_, ?_, by simp only [push_n, fresh_n]; omega, fun x hx => ?_⟩
      · rw [hpu _ _ (by omega), fresh_old _ _ _ (by omega)]; exact vb2
      · rw [hpu _ _ (by omega), fresh_old _ _ _ (by omega)]; exact mv2
      · rw [hpu _ _ (by omega), fresh_old _ _ _ (by omega)]; exact c2
      · rw [hpu _ _ (by omega), fresh_old _ _ _ (by omega)]; exact f2 x hx
    refine CallM.mono (told46 (box := S2.n) (d := d) hws J R j0 ?_ (a := .slice (some ⟨D.mb, 0, none⟩) D.made.length D.made.length) (b := .slice (some ⟨D.nb, 0, none⟩) D.made.length D.made.length) ?_ ?_ step) ?_
    · rw [hpu _ _ (by omega), fresh_at]
    · rw [hpu _ _ (by omega), fresh_old _ _ _ (by omega), f2 d hdlt]; exact h.hd
    · rintro k S' ⟨_, _, _, _, _, _, j6⟩ hw
      rw [j6 _ (wf _ _ (h.hw hw))]; exact h.hw hw
    · rintro _ S' (⟨j0, j1, j2, j3, j4, j5, j6⟩ | ⟨r1, r2, r3, r4, r5⟩)
      · have : n = D.ws.length := by omega
        subst this
        refine ⟨_, j1, by simp, rfl, rfl, ?_, ?_, ?_, fun x hx => ?_⟩
        · rw [set_m, if_neg (by show ¬ S.n + 1 = S2.n + 1; omega)]; exact j4
        · rw [set_m, if_neg (by show ¬ S.n + 2 = S2.n + 1; omega)]; exact j3
        · simp only [set_n]; omega
        · rw [set_m, if_neg (by show ¬ x = S2.n + 1; omega)]; exact j6 x hx
      · refine ⟨_, r1, by simp, ?_⟩
        simp only
        rw [if_pos trivial]
        refine ⟨trivial, trivial, ?_, ?_, ?_, fun x hx => ?_⟩
        · rw [set_m, if_neg (by show ¬ S.n + 1 = S2.n + 1; omega)]; exact r3
        · rw [set_m, if_neg (by show ¬ S.n + 2 = S2.n + 1; omega)]; exact r2
        · simp only [set_n]; omega
        · rw [set_m, if_neg (by show ¬ x = S2.n + 1; omega)]; exact r5 x hx
  refine (loop _ (by simp [FT.get_set, FT.setL, faS_ptr, nilS_ptr, nilS_func, nilS_yield, pickS_bool, ldS_ptr, list_cells, list_ro, partS_none, lenSl_of, lenStr_of, cvInt_of, aminmax_max, aminmax_min, abin_add, abin_sub, abin_mul, abin_eql, abin_neq, abin_lss, abin_leq, abin_gtr, abin_geq, aunary_not, aextract]) (by simp [FT.get_set, FT.setL, faS_ptr, nilS_ptr, nilS_func, nilS_yield, pickS_bool, ldS_ptr, list_cells, list_ro, partS_none, lenSl_of, lenStr_of, cvInt_of, aminmax_max, aminmax_min, abin_add, abin_sub, abin_mul, abin_eql, abin_neq, abin_lss, abin_leq, abin_gtr, abin_geq, aunary_not, aextract]) (by simp [FT.get_set, FT.setL, faS_ptr, nilS_ptr, nilS_func, nilS_yield, pickS_bool, ldS_ptr, list_cells, list_ro, partS_none, lenSl_of, lenStr_of, cvInt_of, aminmax_max, aminmax_min, abin_add, abin_sub, abin_mul, abin_eql, abin_neq, abin_lss, abin_leq, abin_gtr, abin_geq, aunary_not, aextract])).mono ?_
  rintro x T' S4 ⟨rfl, rfl, k1, k2, k3, k4⟩
  simp only
  have hal : (applyW D.made (D.ws.take n)).length = D.made.length := applyW_len _ _
  -- now
  refine m_seq (m_reg ?_)
  rw [reg23_10]
  simp (decide := true) only [FT.get_set, FT.setL, faS_ptr, nilS_ptr, nilS_func, nilS_yield, pickS_bool, ldS_ptr, list_cells, list_ro, partS_none, lenSl_of, lenStr_of, cvInt_of, aminmax_max, aminmax_min, abin_add, abin_sub, abin_mul, abin_eql, abin_neq, abin_lss, abin_leq, abin_gtr, abin_geq, aunary_not, aextract, Option.some.injEq, Prod.mk.injEq, Value.bool.injEq, exists_eq_left', exists_and_left, and_assoc, decide_eq_true_eq, decide_eq_false_iff_not, if_true, if_false, Nat.zero_add, Nat.add_zero, Option.bind_some, true_and, and_true, forall_const, true_implies, Bool.not_eq_true, Bool.false_eq_true, false_implies, ite_self, Nat.mul_one, list_of k2, List.getElem?_cons_zero, msS_of (n := D.made.length) S4 1 8 [.pointer none] .i64 .i64 (by have := h.small; omega) (by have := h.small; omega)]
  refine m_seq (m_reg ?_)
  rw [reg23_11]
  have k2' := (fresh_old S4 (zeros [.pointer none] D.made.length) 1 (by omega : S.n + 2 ≠ S4.n)).trans k2
  have k1' := (fresh_old S4 (zeros [.pointer none] D.made.length) 1 (by omega : S.n + 1 ≠ S4.n)).trans k1
  have hcp2 : ∃ S5, cpS 1 (S4.fresh (zeros [.pointer none] D.made.length) 1) [.slice (some ⟨S4.n, 0, none⟩) D.made.length D.made.length, .slice (some ⟨S.n + 1, 0, none⟩) D.made.length D.made.length] = some (goInt D.made.length, S5) ∧ S5.m S4.n = some (.cells ((applyW D.made (D.ws.take n)).map pv) 1) ∧ S5.n = S4.n + 1 ∧ ∀ x, x ≠ S4.n → S5.m x = (S4.fresh (zeros [.pointer none] D.made.length) 1).m x := by
    refine cp_all (fresh_at _ _ _) rfl (by omega) ?_ (by simp [hal]) (by rw [zeros_len]; simp) ?_
    · rw [first_of (list_of k1') (Nat.le_refl _) (by omega) (by simp [hal])]; simp [hal, List.take_of_length_le]
    · rw [List.all_eq_true]; intro v hv
      obtain ⟨o, _, rfl⟩ := List.mem_map.1 hv
      cases o <;> rfl
  obtain ⟨S5, c5, c6, c7, c8⟩ := hcp2
  simp (decide := true) only [FT.get_set, FT.setL, faS_ptr, nilS_ptr, nilS_func, nilS_yield, pickS_bool, ldS_ptr, list_cells, list_ro, partS_none, lenSl_of, lenStr_of, cvInt_of, aminmax_max, aminmax_min, abin_add, abin_sub, abin_mul, abin_eql, abin_neq, abin_lss, abin_leq, abin_gtr, abin_geq, aunary_not, aextract, Option.some.injEq, Prod.mk.injEq, Value.bool.injEq, exists_eq_left', exists_and_left, and_assoc, decide_eq_true_eq, decide_eq_false_iff_not, if_true, if_false, Nat.zero_add, Nat.add_zero, Option.bind_some, true_and, and_true, forall_const, true_implies, Bool.not_eq_true, Bool.false_eq_true, false_implies, ite_self, Nat.mul_one, list_of k2', List.getElem?_cons_zero]
  refine ⟨_, S5, c5, ?_⟩
  have k25 : S5.m (S.n + 2) = _ := (c8 _ (by omega)).trans k2'
  have k15 : S5.m (S.n + 1) = _ := (c8 _ (by omega)).trans k1'
  refine m_seq (m_reg ?_)
  rw [reg23_12]
  simp (decide := true) only [FT.get_set, FT.setL, faS_ptr, nilS_ptr, nilS_func, nilS_yield, pickS_bool, ldS_ptr, list_cells, list_ro, partS_none, lenSl_of, lenStr_of, cvInt_of, aminmax_max, aminmax_min, abin_add, abin_sub, abin_mul, abin_eql, abin_neq, abin_lss, abin_leq, abin_gtr, abin_geq, aunary_not, aextract, Option.some.injEq, Prod.mk.injEq, Value.bool.injEq, exists_eq_left', exists_and_left, and_assoc, decide_eq_true_eq, decide_eq_false_iff_not, if_true, if_false, Nat.zero_add, Nat.add_zero, Option.bind_some, true_and, and_true, forall_const, true_implies, Bool.not_eq_true, Bool.false_eq_true, false_implies, ite_self, Nat.mul_one, list_of k25, List.getElem?_cons_zero, bd_d (.slice (some ⟨S.n + 1, 0, none⟩) D.made.length D.made.length) (.slice (some ⟨S4.n, 0, none⟩) D.made.length D.made.length) rfl rfl, cells_agg, ptrTo]
  refine m_ret ?_
  simp [resM, FT.get_set, FT.setL, faS_ptr, nilS_ptr, nilS_func, nilS_yield, pickS_bool, ldS_ptr, list_cells, list_ro, partS_none, lenSl_of, lenStr_of, cvInt_of, aminmax_max, aminmax_min, abin_add, abin_sub, abin_mul, abin_eql, abin_neq, abin_lss, abin_leq, abin_gtr, abin_geq, aunary_not, aextract, oneOrTuple]
  refine hq S5.n (S.n + 1) S4.n _ ⟨by simp [atDK], ?_, ?_, ?_, fun hw => absurd rfl hw, ?_, ?_⟩ (by omega) (by omega) (by omega) (by simp only [fresh_n]; omega) (fun x hx => ?_)
  · rw [fresh_at]; simp [atDK, diskL, wsa, wsc, hal]
  · rw [fresh_old _ _ _ (by simp only [atDK]; omega)]; exact k15
  · rw [fresh_old _ _ _ (by simp only [atDK]; omega)]; exact c6
  · simp only [atDK]; omega
  · simp only [atDK, hal]; exact h.small
  · rw [fresh_old _ _ _ (by omega), c8 x (by omega), fresh_old _ _ _ (by omega)]; exact k4 x hx
end Go.Proofs.Ytmfmbadfgnhonaa

