/-
  The walk through the outbox's code: what its functions do to memory, part Bn1. Nothing is asked.
-/
import Derived.Test.YtikdcdccpbnaeaaOn2
set_option linter.all false
namespace Go.Proofs.Ytikdcdccpbnaeaa
open Go Go.Ag
set_option linter.unusedVariables false
set_option maxRecDepth 100000

/-- a box -/
structure IsB (S : MS) (b B : Nat) (next : Int) (wv : Value) (W : List Em) : Prop where
  c : S.m b = some (.cells [.int .i64 next, wv] 0)
  w : SlF emL 2 S B wv W
  lt : b < B
theorem IsB.old {S S' : MS} {b B : Nat} {next : Int} {wv : Value} {W : List Em} (h : IsB S b B next wv W) (wf : S.WF) (f : Old S S') : IsB S' b B next wv W :=
  ⟨(f.2 _ (wf _ _ h.c)).trans h.c, h.w.keep fun y k hy => f.2 y (wf y k hy), h.lt⟩

theorem bd_box (a : Int) : bdS (fun i => [(0, 1), (1, 1)][i]?) [.int .i64 0, .slice none 0 0] [(0, .int .i64 a)] = some (.agg #[.int .i64 a, .slice none 0 0]) := rfl

theorem new6 {S : MS} {Q : Value → MS → Prop} (hq : ∀ S', Old S S' → S'.n = S.n + 1 → IsB S' S.n (S.n + 1) 1 (.slice none 0 0) [] → Q (.pointer (some ⟨S.n, 0, none⟩)) S') : CallM Try.prog O 6 [.int .i64 1, .slice none 0 0] S Q := by
  refine callM_body (fnIs is6 body6 res6) (O_none (by decide)) (by simp) ?_
  refine m_seq (m_reg ?_)
  rw [reg6_0]
  refine m_seq (m_seq (m_reg ?_))
  rw [reg6_1]
  have e1 : decide ((1 : Int) < 1) = false := by decide
  have e2 : decide ((1 : Int) > 1099511627776) = false := by decide
  simp (decide := true) only [FT.get_set, FT.setL, faS_ptr, nilS_ptr, nilS_func, nilS_yield, pickS_bool, ldS_ptr, list_cells, list_ro, partS_none, lenSl_of, lenStr_of, cvInt_of, aminmax_max, aminmax_min, abin_add, abin_sub, abin_mul, abin_eql, abin_neq, abin_lss, abin_leq, abin_gtr, abin_geq, aunary_not, aextract, Option.some.injEq, Prod.mk.injEq, Value.bool.injEq, exists_eq_left', exists_and_left, and_assoc, decide_eq_true_eq, decide_eq_false_iff_not, if_true, if_false, Nat.zero_add, Nat.add_zero, Option.bind_some, true_and, and_true, forall_const, true_implies, Bool.not_eq_true, Bool.false_eq_true, false_implies, ite_self, Nat.mul_one, e1, e2]
  refine m_cond (t := false) (by simp [evalT, FT.get_set, FT.setL, faS_ptr, nilS_ptr, nilS_func, nilS_yield, pickS_bool, ldS_ptr, list_cells, list_ro, partS_none, lenSl_of, lenStr_of, cvInt_of, aminmax_max, aminmax_min, abin_add, abin_sub, abin_mul, abin_eql, abin_neq, abin_lss, abin_leq, abin_gtr, abin_geq, aunary_not, aextract]) (fun h => by cases h) (fun _ => m_skip ?_)
  simp only
  refine m_seq (m_reg ?_)
  rw [reg6_3]
  have ec : (Value.cells (.agg #[.int .i64 1, .slice none 0 0])).toList = [.int .i64 1, .slice none 0 0] := rfl
  simp (decide := true) only [FT.get_set, FT.setL, faS_ptr, nilS_ptr, nilS_func, nilS_yield, pickS_bool, ldS_ptr, list_cells, list_ro, partS_none, lenSl_of, lenStr_of, cvInt_of, aminmax_max, aminmax_min, abin_add, abin_sub, abin_mul, abin_eql, abin_neq, abin_lss, abin_leq, abin_gtr, abin_geq, aunary_not, aextract, Option.some.injEq, Prod.mk.injEq, Value.bool.injEq, exists_eq_left', exists_and_left, and_assoc, decide_eq_true_eq, decide_eq_false_iff_not, if_true, if_false, Nat.zero_add, Nat.add_zero, Option.bind_some, true_and, and_true, forall_const, true_implies, Bool.not_eq_true, Bool.false_eq_true, false_implies, ite_self, Nat.mul_one, bd_box, ec, ptrTo]
  have f1 := old_fresh S [.int .i64 1, .slice none 0 0] 0
  have hb := fresh_at S [.int .i64 1, .slice none 0 0] 0
  have hn : (S.fresh [.int .i64 1, .slice none 0 0] 0).n = S.n + 1 := rfl
  generalize S.fresh [.int .i64 1, .slice none 0 0] 0 = S1 at *
  refine m_seq (m_reg ?_)
  rw [reg6_4]
  refine m_seq (m_seq (m_reg ?_))
  rw [reg6_5]
  have e3 : lenSl (.slice none 0 0) = some (.int .i64 0) := rfl
  simp (decide := true) only [FT.get_set, FT.setL, faS_ptr, nilS_ptr, nilS_func, nilS_yield, pickS_bool, ldS_ptr, list_cells, list_ro, partS_none, lenSl_of, lenStr_of, cvInt_of, aminmax_max, aminmax_min, abin_add, abin_sub, abin_mul, abin_eql, abin_neq, abin_lss, abin_leq, abin_gtr, abin_geq, aunary_not, aextract, Option.some.injEq, Prod.mk.injEq, Value.bool.injEq, exists_eq_left', exists_and_left, and_assoc, decide_eq_true_eq, decide_eq_false_iff_not, if_true, if_false, Nat.zero_add, Nat.add_zero, Option.bind_some, true_and, and_true, forall_const, true_implies, Bool.not_eq_true, Bool.false_eq_true, false_implies, ite_self, Nat.mul_one, e3]
  unfold blk6_0
  refine m_block (m_loop (fun m T S' => S' = S1 ∧ T.get 19 = .int .i64 0 ∧ T.get 20 = .int .i64 0 ∧ T.get 5 = .pointer (some ⟨S.n, 0, none⟩)) 0 ⟨rfl, by simp [FT.get_set, FT.setL, faS_ptr, nilS_ptr, nilS_func, nilS_yield, pickS_bool, ldS_ptr, list_cells, list_ro, partS_none, lenSl_of, lenStr_of, cvInt_of, aminmax_max, aminmax_min, abin_add, abin_sub, abin_mul, abin_eql, abin_neq, abin_lss, abin_leq, abin_gtr, abin_geq, aunary_not, aextract], by simp [FT.get_set, FT.setL, faS_ptr, nilS_ptr, nilS_func, nilS_yield, pickS_bool, ldS_ptr, list_cells, list_ro, partS_none, lenSl_of, lenStr_of, cvInt_of, aminmax_max, aminmax_min, abin_add, abin_sub, abin_mul, abin_eql, abin_neq, abin_lss, abin_leq, abin_gtr, abin_geq, aunary_not, aextract], by simp [FT.get_set, FT.setL, faS_ptr, nilS_ptr, nilS_func, nilS_yield, pickS_bool, ldS_ptr, list_cells, list_ro, partS_none, lenSl_of, lenStr_of, cvInt_of, aminmax_max, aminmax_min, abin_add, abin_sub, abin_mul, abin_eql, abin_neq, abin_lss, abin_leq, abin_gtr, abin_geq, aunary_not, aextract]⟩ ?_)
  rintro m T S2 ⟨rfl, t19, t20, t5⟩
  refine m_seq (m_reg ?_)
  rw [reg6_6]
  have e4 : decide ((0 : Int) < 0) = false := by decide
  simp (decide := true) only [FT.get_set, FT.setL, faS_ptr, nilS_ptr, nilS_func, nilS_yield, pickS_bool, ldS_ptr, list_cells, list_ro, partS_none, lenSl_of, lenStr_of, cvInt_of, aminmax_max, aminmax_min, abin_add, abin_sub, abin_mul, abin_eql, abin_neq, abin_lss, abin_leq, abin_gtr, abin_geq, aunary_not, aextract, Option.some.injEq, Prod.mk.injEq, Value.bool.injEq, exists_eq_left', exists_and_left, and_assoc, decide_eq_true_eq, decide_eq_false_iff_not, if_true, if_false, Nat.zero_add, Nat.add_zero, Option.bind_some, true_and, and_true, forall_const, true_implies, Bool.not_eq_true, Bool.false_eq_true, false_implies, ite_self, Nat.mul_one, t19, t20, e4]
  refine m_seq (m_cond (t := false) (by simp [evalT, FT.get_set, FT.setL, faS_ptr, nilS_ptr, nilS_func, nilS_yield, pickS_bool, ldS_ptr, list_cells, list_ro, partS_none, lenSl_of, lenStr_of, cvInt_of, aminmax_max, aminmax_min, abin_add, abin_sub, abin_mul, abin_eql, abin_neq, abin_lss, abin_leq, abin_gtr, abin_geq, aunary_not, aextract]) (fun h => by cases h) (fun _ => m_exit ?_))
  simp only [if_true]
  refine m_seq (m_reg ?_)
  rw [reg6_11]
  simp (decide := true) only [FT.get_set, FT.setL, faS_ptr, nilS_ptr, nilS_func, nilS_yield, pickS_bool, ldS_ptr, list_cells, list_ro, partS_none, lenSl_of, lenStr_of, cvInt_of, aminmax_max, aminmax_min, abin_add, abin_sub, abin_mul, abin_eql, abin_neq, abin_lss, abin_leq, abin_gtr, abin_geq, aunary_not, aextract, Option.some.injEq, Prod.mk.injEq, Value.bool.injEq, exists_eq_left', exists_and_left, and_assoc, decide_eq_true_eq, decide_eq_false_iff_not, if_true, if_false, Nat.zero_add, Nat.add_zero, Option.bind_some, true_and, and_true, forall_const, true_implies, Bool.not_eq_true, Bool.false_eq_true, false_implies, ite_self, Nat.mul_one, t5]
  refine m_ret ?_
  simp [resM, FT.get_set, FT.setL, faS_ptr, nilS_ptr, nilS_func, nilS_yield, pickS_bool, ldS_ptr, list_cells, list_ro, partS_none, lenSl_of, lenStr_of, cvInt_of, aminmax_max, aminmax_min, abin_add, abin_sub, abin_mul, abin_eql, abin_neq, abin_lss, abin_leq, abin_gtr, abin_geq, aunary_not, aextract, oneOrTuple]
  exact hq S2 f1 hn ⟨hb, .non, Nat.lt_succ_self _⟩

/-- Add -/
theorem add8 {S : MS} {b B : Nat} {next : Int} {wv : Value} {W : List Em} {t : ByteArray} (h : IsB S b B next wv W) (hB : B ≤ S.n) (hn : 0 ≤ next ∧ next ≤ 1000000) (hl : W.length ≤ 1000) {Q : Value → MS → Prop}
    (hq : ∀ w' S', S.n ≤ S'.n → (∀ y, y < S.n → y ≠ b → Av wv y → S'.m y = S.m y) → (∀ y, y < S.n → Av wv y → Av w' y) → IsB S' b B (next + 1) w' (W ++ [(next, t)]) → Q (.int .i64 next) S') :
    CallM Try.prog O 8 [.pointer (some ⟨b, 0, none⟩), .string t] S Q := by
  refine callM_wf fun wf => ?_
  have hbn := wf _ _ h.c
  refine callM_body (fnIs is8 body8 res8) (O_none (by decide)) (by simp) ?_
  refine m_seq (m_reg ?_)
  rw [reg8_0]
  refine m_seq (m_draw ?_)
  rw [reg8_1]
  have wf1 := wf_fresh' wf (emL (next, t)) 2
  have f1 := old_fresh S (emL (next, t)) 2
  have h1 := h.old wf f1
  obtain ⟨w', S2, a1, a2, a3, a4, a5⟩ := h1.w.app2 (bytes := 24) (z := [.int .i64 0, .string ⟨⟨[]⟩⟩]) em_len em_one (by decide) (x := .slice (some ⟨S.n, 0, none⟩) 1 1) (new := [(next, t)]) wf1 (by simp only [fresh_n]; omega) rfl (firstEm _ _) (by simp; omega) (by simp; omega)
  have hcw : Av w' b := a5 b (by simp only [fresh_n]; omega) (h1.w.av h.lt)
  have hc2 := (a4 b (by simp only [fresh_n]; omega) (h1.w.av h.lt)).trans h1.c
  obtain ⟨S3, u1, u2, u3, u4⟩ := st_one (off := 1) (v := w') hc2 (by simp) (SlF.one a2).1 (SlF.one a2).2
  simp (decide := true) only [FT.get_set, FT.setL, faS_ptr, nilS_ptr, nilS_func, nilS_yield, pickS_bool, ldS_ptr, list_cells, list_ro, partS_none, lenSl_of, lenStr_of, cvInt_of, aminmax_max, aminmax_min, abin_add, abin_sub, abin_mul, abin_eql, abin_neq, abin_lss, abin_leq, abin_gtr, abin_geq, aunary_not, aextract, Option.some.injEq, Prod.mk.injEq, Value.bool.injEq, exists_eq_left', exists_and_left, and_assoc, decide_eq_true_eq, decide_eq_false_iff_not, if_true, if_false, Nat.zero_add, Nat.add_zero, Option.bind_some, true_and, and_true, forall_const, true_implies, Bool.not_eq_true, Bool.false_eq_true, false_implies, ite_self, Nat.mul_one, list_of h.c, List.getElem?_cons_zero, List.getElem?_cons_succ, bd_em, bs_em, a1]
  refine ⟨S3, by simpa using u1, ?_⟩
  have hc3 : S3.m b = some (.cells [.int .i64 next, w'] 0) := u2
  refine m_seq (m_reg ?_)
  rw [reg8_2]
  have hwx : IntKind.i64.wrap (next + 1) = next + 1 := wrap_i64 (by omega) (by omega)
  have hwy : IntKind.i64.wrap (next + 1 - 1) = next := by rw [wrap_i64 (by omega) (by omega)]; omega
  obtain ⟨S4, v1, v2, v3, v4⟩ := st_one (off := 0) (v := .int .i64 (next + 1)) hc3 (by simp) rfl rfl
  simp (decide := true) only [FT.get_set, FT.setL, faS_ptr, nilS_ptr, nilS_func, nilS_yield, pickS_bool, ldS_ptr, list_cells, list_ro, partS_none, lenSl_of, lenStr_of, cvInt_of, aminmax_max, aminmax_min, abin_add, abin_sub, abin_mul, abin_eql, abin_neq, abin_lss, abin_leq, abin_gtr, abin_geq, aunary_not, aextract, Option.some.injEq, Prod.mk.injEq, Value.bool.injEq, exists_eq_left', exists_and_left, and_assoc, decide_eq_true_eq, decide_eq_false_iff_not, if_true, if_false, Nat.zero_add, Nat.add_zero, Option.bind_some, true_and, and_true, forall_const, true_implies, Bool.not_eq_true, Bool.false_eq_true, false_implies, ite_self, Nat.mul_one, list_of hc3, List.getElem?_cons_zero, List.getElem?_cons_succ, hwx]
  refine ⟨S4, by simpa using v1, ?_⟩
  have hc4 : S4.m b = some (.cells [.int .i64 (next + 1), w'] 0) := v2
  refine m_seq (m_reg ?_)
  rw [reg8_3]
  simp (decide := true) only [FT.get_set, FT.setL, faS_ptr, nilS_ptr, nilS_func, nilS_yield, pickS_bool, ldS_ptr, list_cells, list_ro, partS_none, lenSl_of, lenStr_of, cvInt_of, aminmax_max, aminmax_min, abin_add, abin_sub, abin_mul, abin_eql, abin_neq, abin_lss, abin_leq, abin_gtr, abin_geq, aunary_not, aextract, Option.some.injEq, Prod.mk.injEq, Value.bool.injEq, exists_eq_left', exists_and_left, and_assoc, decide_eq_true_eq, decide_eq_false_iff_not, if_true, if_false, Nat.zero_add, Nat.add_zero, Option.bind_some, true_and, and_true, forall_const, true_implies, Bool.not_eq_true, Bool.false_eq_true, false_implies, ite_self, Nat.mul_one, list_of hc4, List.getElem?_cons_zero, List.getElem?_cons_succ, hwy]
  refine m_ret ?_
  simp [resM, FT.get_set, FT.setL, faS_ptr, nilS_ptr, nilS_func, nilS_yield, pickS_bool, ldS_ptr, list_cells, list_ro, partS_none, lenSl_of, lenStr_of, cvInt_of, aminmax_max, aminmax_min, abin_add, abin_sub, abin_mul, abin_eql, abin_neq, abin_lss, abin_leq, abin_gtr, abin_geq, aunary_not, aextract, oneOrTuple]
  have hav : ∀ y, y < S.n → Av wv y → Av w' y := fun y hy hv => a5 y (by simp only [fresh_n]; omega) hv
  refine hq w' S4 (by have := a3; simp only [fresh_n] at this; omega) (fun y hy hne hv => ?_) hav ⟨hc4, a2.keep1 fun y k hy _ => ?_, h.lt⟩
  · rw [v4 y hne, u4 y hne, a4 y (by simp only [fresh_n]; omega) hv, f1.2 y hy]
  · have : y ≠ b := fun e => by subst e; exact hy hcw
    rw [v4 y this, u4 y this]

/-- above -/
theorem above14 {S : MS} {b : Nat} {n : Int} {Q : Value → MS → Prop}
    (hq : ∀ S', Old S S' → S'.n = S.n + 2 → S'.m S.n = some (.cells [.pointer (some ⟨b, 0, none⟩)] 0) → S'.m (S.n + 1) = some (.cells [.int .i64 n] 0) → Q (.func (.func 18) #[] #[.pointer (some ⟨S.n, 0, none⟩), .pointer (some ⟨S.n + 1, 0, none⟩)]) S') :
    CallM Try.prog O 14 [.pointer (some ⟨b, 0, none⟩), .int .i64 n] S Q := by
  refine callM_body (fnIs is14 body14 res14) (O_none (by decide)) (by simp) ?_
  refine m_seq (m_reg ?_)
  rw [reg14_0]
  have e1 : (Value.cells (.pointer (some ⟨b, 0, none⟩))).toList = [.pointer (some ⟨b, 0, none⟩)] := rfl
  have e2 : (Value.cells (.int .i64 n)).toList = [.int .i64 n] := rfl
  simp (decide := true) only [FT.get_set, FT.setL, faS_ptr, nilS_ptr, nilS_func, nilS_yield, pickS_bool, ldS_ptr, list_cells, list_ro, partS_none, lenSl_of, lenStr_of, cvInt_of, aminmax_max, aminmax_min, abin_add, abin_sub, abin_mul, abin_eql, abin_neq, abin_lss, abin_leq, abin_gtr, abin_geq, aunary_not, aextract, Option.some.injEq, Prod.mk.injEq, Value.bool.injEq, exists_eq_left', exists_and_left, and_assoc, decide_eq_true_eq, decide_eq_false_iff_not, if_true, if_false, Nat.zero_add, Nat.add_zero, Option.bind_some, true_and, and_true, forall_const, true_implies, Bool.not_eq_true, Bool.false_eq_true, false_implies, ite_self, Nat.mul_one, e1, e2, ptrTo]
  refine m_seq (m_reg ?_)
  rw [reg14_1]
  refine m_ret ?_
  simp [resM, FT.get_set, FT.setL, faS_ptr, nilS_ptr, nilS_func, nilS_yield, pickS_bool, ldS_ptr, list_cells, list_ro, partS_none, lenSl_of, lenStr_of, cvInt_of, aminmax_max, aminmax_min, abin_add, abin_sub, abin_mul, abin_eql, abin_neq, abin_lss, abin_leq, abin_gtr, abin_geq, aunary_not, aextract, oneOrTuple]
  have f1 := old_fresh S [.pointer (some ⟨b, 0, none⟩)] 0
  have h1 := fresh_at S [.pointer (some ⟨b, 0, none⟩)] 0
  have f2 := old_fresh (S.fresh [.pointer (some ⟨b, 0, none⟩)] 0) [.int .i64 n] 0
  have h2 := fresh_at (S.fresh [.pointer (some ⟨b, 0, none⟩)] 0) [.int .i64 n] 0
  exact hq _ (f1.trans f2) rfl ((f2.2 _ (by simp only [fresh_n]; omega)).trans h1) h2

/-- those above a number -/
def ab (n : Int) (l : List Em) : List Em := l.filter fun x => decide (x.1 > n)
def AI (ls : List Em) (J : Nat → MS → Prop) (l b1 b2 : Nat) (w : Value) (m : Nat) (T : FT) (S : MS) : Prop :=
  ∃ k : Nat, k + m = ls.length ∧ J k S ∧ T.get 0 = .func (.yield l) #[] #[] ∧ T.get 1 = .pointer (some ⟨b1, 0, none⟩) ∧ T.get 2 = .pointer (some ⟨b2, 0, none⟩) ∧ T.get 9 = w ∧ T.get 10 = .int .i64 ls.length ∧ T.get 11 = .int .i64 k

theorem partS_em (a : Em) : partS (some 2) (emL a) 0 = some (.agg (emL a).toArray) := rfl
theorem el0 (a : Em) : (emL a)[0]? = some (.int .i64 a.1) := rfl

theorem above18 {S : MS} {b1 b2 b B l : Nat} {n next : Int} {w : Value} {ls : List Em} (hls : ls.length ≤ 100000) (J : Nat → MS → Prop)
    (hJ : ∀ k S, J k S → S.m b1 = some (.cells [.pointer (some ⟨b, 0, none⟩)] 0) ∧ S.m b2 = some (.cells [.int .i64 n] 0) ∧ IsB S b B next w ls)
    (hkeep : ∀ k S S', J k S → S.WF → Old S S' → J k S')
    (step : ∀ k S x, J k S → S.WF → ls[k]? = some x → x.1 > n → RoundM Try.prog O l [.agg (emL x).toArray] S fun v S' => v = .bool true ∧ J (k + 1) S')
    (skip : ∀ k S x, J k S → ls[k]? = some x → ¬ x.1 > n → J (k + 1) S)
    (hs : J 0 S) :
    CallM Try.prog O 18 [.func (.yield l) #[] #[], .pointer (some ⟨b1, 0, none⟩), .pointer (some ⟨b2, 0, none⟩)] S fun _ S' => J ls.length S' := by
  refine callM_body (fnIs is18 body18 res18) (O_none (by decide)) (by simp) ?_
  obtain ⟨hb1, hb2, hc⟩ := hJ _ _ hs
  refine m_seq (m_reg ?_)
  rw [reg18_0]
  simp (decide := true) only [FT.get_set, FT.setL, faS_ptr, nilS_ptr, nilS_func, nilS_yield, pickS_bool, ldS_ptr, list_cells, list_ro, partS_none, lenSl_of, lenStr_of, cvInt_of, aminmax_max, aminmax_min, abin_add, abin_sub, abin_mul, abin_eql, abin_neq, abin_lss, abin_leq, abin_gtr, abin_geq, aunary_not, aextract, Option.some.injEq, Prod.mk.injEq, Value.bool.injEq, exists_eq_left', exists_and_left, and_assoc, decide_eq_true_eq, decide_eq_false_iff_not, if_true, if_false, Nat.zero_add, Nat.add_zero, Option.bind_some, true_and, and_true, forall_const, true_implies, Bool.not_eq_true, Bool.false_eq_true, false_implies, ite_self, Nat.mul_one, list_of hb1, list_of hc.c, List.getElem?_cons_zero, List.getElem?_cons_succ, hc.w.lenSl]
  unfold blk18_0
  refine m_block (m_loop (fun m T S' => AI ls J l b1 b2 w m T S') ls.length ⟨0, by omega, hs, by simp [FT.get_set, FT.setL, faS_ptr, nilS_ptr, nilS_func, nilS_yield, pickS_bool, ldS_ptr, list_cells, list_ro, partS_none, lenSl_of, lenStr_of, cvInt_of, aminmax_max, aminmax_min, abin_add, abin_sub, abin_mul, abin_eql, abin_neq, abin_lss, abin_leq, abin_gtr, abin_geq, aunary_not, aextract], by simp [FT.get_set, FT.setL, faS_ptr, nilS_ptr, nilS_func, nilS_yield, pickS_bool, ldS_ptr, list_cells, list_ro, partS_none, lenSl_of, lenStr_of, cvInt_of, aminmax_max, aminmax_min, abin_add, abin_sub, abin_mul, abin_eql, abin_neq, abin_lss, abin_leq, abin_gtr, abin_geq, aunary_not, aextract], by simp [FT.get_set, FT.setL, faS_ptr, nilS_ptr, nilS_func, nilS_yield, pickS_bool, ldS_ptr, list_cells, list_ro, partS_none, lenSl_of, lenStr_of, cvInt_of, aminmax_max, aminmax_min, abin_add, abin_sub, abin_mul, abin_eql, abin_neq, abin_lss, abin_leq, abin_gtr, abin_geq, aunary_not, aextract], by simp [FT.get_set, FT.setL, faS_ptr, nilS_ptr, nilS_func, nilS_yield, pickS_bool, ldS_ptr, list_cells, list_ro, partS_none, lenSl_of, lenStr_of, cvInt_of, aminmax_max, aminmax_min, abin_add, abin_sub, abin_mul, abin_eql, abin_neq, abin_lss, abin_leq, abin_gtr, abin_geq, aunary_not, aextract], by simp [FT.get_set, FT.setL, faS_ptr, nilS_ptr, nilS_func, nilS_yield, pickS_bool, ldS_ptr, list_cells, list_ro, partS_none, lenSl_of, lenStr_of, cvInt_of, aminmax_max, aminmax_min, abin_add, abin_sub, abin_mul, abin_eql, abin_neq, abin_lss, abin_leq, abin_gtr, abin_geq, aunary_not, aextract], by simp [FT.get_set, FT.setL, faS_ptr, nilS_ptr, nilS_func, nilS_yield, pickS_bool, ldS_ptr, list_cells, list_ro, partS_none, lenSl_of, lenStr_of, cvInt_of, aminmax_max, aminmax_min, abin_add, abin_sub, abin_mul, abin_eql, abin_neq, abin_lss, abin_leq, abin_gtr, abin_geq, aunary_not, aextract]⟩ ?_)
  clear hs hb1 hb2 hc
  rintro m T S1 ⟨k, hk, hj, t0, t1, t2, t9, t10, t11⟩
  obtain ⟨hb1, hb2, hc⟩ := hJ _ _ hj
  refine m_wf fun wf1 => m_seq (m_reg ?_)
  rw [reg18_1]
  simp (decide := true) only [FT.get_set, FT.setL, faS_ptr, nilS_ptr, nilS_func, nilS_yield, pickS_bool, ldS_ptr, list_cells, list_ro, partS_none, lenSl_of, lenStr_of, cvInt_of, aminmax_max, aminmax_min, abin_add, abin_sub, abin_mul, abin_eql, abin_neq, abin_lss, abin_leq, abin_gtr, abin_geq, aunary_not, aextract, Option.some.injEq, Prod.mk.injEq, Value.bool.injEq, exists_eq_left', exists_and_left, and_assoc, decide_eq_true_eq, decide_eq_false_iff_not, if_true, if_false, Nat.zero_add, Nat.add_zero, Option.bind_some, true_and, and_true, forall_const, true_implies, Bool.not_eq_true, Bool.false_eq_true, false_implies, ite_self, Nat.mul_one, t10, t11]
  refine m_seq (m_cond (t := decide ((k : Int) < ls.length)) (by simp [evalT, FT.get_set, FT.setL, faS_ptr, nilS_ptr, nilS_func, nilS_yield, pickS_bool, ldS_ptr, list_cells, list_ro, partS_none, lenSl_of, lenStr_of, cvInt_of, aminmax_max, aminmax_min, abin_add, abin_sub, abin_mul, abin_eql, abin_neq, abin_lss, abin_leq, abin_gtr, abin_geq, aunary_not, aextract]) (fun hlt => m_skip ?_) (fun hlt => m_exit ?_))
  · have hlt : k < ls.length := by have := of_decide_eq_true hlt; omega
    simp only
    obtain ⟨x, hx⟩ : ∃ x, ls[k]? = some x := ⟨_, List.getElem?_eq_getElem hlt⟩
    obtain ⟨bb, _, q1, q2⟩ := hc.w.at em_len hx
    unfold blk18_1
    refine m_seq (m_block (m_seq (m_reg ?_)))
    rw [reg18_2]
    obtain ⟨S2, s1, s2, s3, s4⟩ := st_all (n := 2) (cs := (emL x).toArray) (fresh_at S1 [.int .i64 0, .string ⟨⟨[]⟩⟩] 0) rfl rfl rfl
    simp (decide := true) only [FT.get_set, FT.setL, faS_ptr, nilS_ptr, nilS_func, nilS_yield, pickS_bool, ldS_ptr, list_cells, list_ro, partS_none, lenSl_of, lenStr_of, cvInt_of, aminmax_max, aminmax_min, abin_add, abin_sub, abin_mul, abin_eql, abin_neq, abin_lss, abin_leq, abin_gtr, abin_geq, aunary_not, aextract, Option.some.injEq, Prod.mk.injEq, Value.bool.injEq, exists_eq_left', exists_and_left, and_assoc, decide_eq_true_eq, decide_eq_false_iff_not, if_true, if_false, Nat.zero_add, Nat.add_zero, Option.bind_some, true_and, and_true, forall_const, true_implies, Bool.not_eq_true, Bool.false_eq_true, false_implies, ite_self, Nat.mul_one, t9, t11, q1, q2 S1 rfl, ptrTo]
    refine ⟨S2, s1, ?_⟩
    have hs2 : S2.m S1.n = some (.cells (emL x) 0) := s2
    have f2 : Old S1 S2 := ⟨by rw [s3, fresh_n]; omega, fun y hy => by rw [s4 y (by omega), fresh_old _ _ _ (by omega)]⟩
    have hj2 := hkeep _ _ _ hj wf1 f2
    obtain ⟨hb1', hb2', hc'⟩ := hJ _ _ hj2
    have hwk : IntKind.i64.wrap ((k : Int) + 1) = ((k + 1 : Nat) : Int) := by rw [wrap_i64 (by omega) (by omega)]; rfl
    have next : ∀ (T' : FT) (S' : MS) (Q : AExit → FT → MS → Prop), J (k + 1) S' → T'.get 11 = .int .i64 k → T'.get 0 = T.get 0 → T'.get 1 = T.get 1 → T'.get 2 = T.get 2 → T'.get 9 = T.get 9 → T'.get 10 = T.get 10 → (∀ T'', (∃ k', k' < m ∧ AI ls J l b1 b2 w k' T'' S') → Q .normal T'' S') → MWp Try.prog O 26 (.region 4 (ro 18 4) false) T' S' Q := by
      intro T' S' Q hj' e11 e0 e1 e2 e9 e10 hQ
      refine m_reg ?_
      rw [reg18_4]
      simp (decide := true) only [FT.get_set, FT.setL, faS_ptr, nilS_ptr, nilS_func, nilS_yield, pickS_bool, ldS_ptr, list_cells, list_ro, partS_none, lenSl_of, lenStr_of, cvInt_of, aminmax_max, aminmax_min, abin_add, abin_sub, abin_mul, abin_eql, abin_neq, abin_lss, abin_leq, abin_gtr, abin_geq, aunary_not, aextract, Option.some.injEq, Prod.mk.injEq, Value.bool.injEq, exists_eq_left', exists_and_left, and_assoc, decide_eq_true_eq, decide_eq_false_iff_not, if_true, if_false, Nat.zero_add, Nat.add_zero, Option.bind_some, true_and, and_true, forall_const, true_implies, Bool.not_eq_true, Bool.false_eq_true, false_implies, ite_self, Nat.mul_one, e11, hwk]
      exact hQ _ ⟨m - 1, by omega, k + 1, by omega, hj', by simp [FT.get_set, FT.setL, faS_ptr, nilS_ptr, nilS_func, nilS_yield, pickS_bool, ldS_ptr, list_cells, list_ro, partS_none, lenSl_of, lenStr_of, cvInt_of, aminmax_max, aminmax_min, abin_add, abin_sub, abin_mul, abin_eql, abin_neq, abin_lss, abin_leq, abin_gtr, abin_geq, aunary_not, aextract, e0, t0], by simp [FT.get_set, FT.setL, faS_ptr, nilS_ptr, nilS_func, nilS_yield, pickS_bool, ldS_ptr, list_cells, list_ro, partS_none, lenSl_of, lenStr_of, cvInt_of, aminmax_max, aminmax_min, abin_add, abin_sub, abin_mul, abin_eql, abin_neq, abin_lss, abin_leq, abin_gtr, abin_geq, aunary_not, aextract, e1, t1], by simp [FT.get_set, FT.setL, faS_ptr, nilS_ptr, nilS_func, nilS_yield, pickS_bool, ldS_ptr, list_cells, list_ro, partS_none, lenSl_of, lenStr_of, cvInt_of, aminmax_max, aminmax_min, abin_add, abin_sub, abin_mul, abin_eql, abin_neq, abin_lss, abin_leq, abin_gtr, abin_geq, aunary_not, aextract, e2, t2], by simp [FT.get_set, FT.setL, faS_ptr, nilS_ptr, nilS_func, nilS_yield, pickS_bool, ldS_ptr, list_cells, list_ro, partS_none, lenSl_of, lenStr_of, cvInt_of, aminmax_max, aminmax_min, abin_add, abin_sub, abin_mul, abin_eql, abin_neq, abin_lss, abin_leq, abin_gtr, abin_geq, aunary_not, aextract, e9, t9], by simp [FT.get_set, FT.setL, faS_ptr, nilS_ptr, nilS_func, nilS_yield, pickS_bool, ldS_ptr, list_cells, list_ro, partS_none, lenSl_of, lenStr_of, cvInt_of, aminmax_max, aminmax_min, abin_add, abin_sub, abin_mul, abin_eql, abin_neq, abin_lss, abin_leq, abin_gtr, abin_geq, aunary_not, aextract, e10, t10], by simp [FT.get_set, FT.setL, faS_ptr, nilS_ptr, nilS_func, nilS_yield, pickS_bool, ldS_ptr, list_cells, list_ro, partS_none, lenSl_of, lenStr_of, cvInt_of, aminmax_max, aminmax_min, abin_add, abin_sub, abin_mul, abin_eql, abin_neq, abin_lss, abin_leq, abin_gtr, abin_geq, aunary_not, aextract]⟩
    refine m_wf fun wf2 => m_seq (m_reg ?_)
    rw [reg18_3]
    by_cases hxt : x.1 > n
    · have e1 : decide (x.1 > n) = true := decide_eq_true hxt
      simp (decide := true) only [FT.get_set, FT.setL, faS_ptr, nilS_ptr, nilS_func, nilS_yield, pickS_bool, ldS_ptr, list_cells, list_ro, partS_none, lenSl_of, lenStr_of, cvInt_of, aminmax_max, aminmax_min, abin_add, abin_sub, abin_mul, abin_eql, abin_neq, abin_lss, abin_leq, abin_gtr, abin_geq, aunary_not, aextract, Option.some.injEq, Prod.mk.injEq, Value.bool.injEq, exists_eq_left', exists_and_left, and_assoc, decide_eq_true_eq, decide_eq_false_iff_not, if_true, if_false, Nat.zero_add, Nat.add_zero, Option.bind_some, true_and, and_true, forall_const, true_implies, Bool.not_eq_true, Bool.false_eq_true, false_implies, ite_self, Nat.mul_one, t0, t2, list_of hs2, list_of hb2', el0, List.getElem?_cons_zero, e1, partS_em]
      refine CallV.mono (f := .func (.yield l) #[] #[]) (args := [.agg (emL x).toArray]) (step k S2 x hj2 wf2 hx hxt) ?_
      rintro _ S3 ⟨rfl, hj3⟩
      simp (decide := true) only [FT.get_set, FT.setL, faS_ptr, nilS_ptr, nilS_func, nilS_yield, pickS_bool, ldS_ptr, list_cells, list_ro, partS_none, lenSl_of, lenStr_of, cvInt_of, aminmax_max, aminmax_min, abin_add, abin_sub, abin_mul, abin_eql, abin_neq, abin_lss, abin_leq, abin_gtr, abin_geq, aunary_not, aextract, Option.some.injEq, Prod.mk.injEq, Value.bool.injEq, exists_eq_left', exists_and_left, and_assoc, decide_eq_true_eq, decide_eq_false_iff_not, if_true, if_false, Nat.zero_add, Nat.add_zero, Option.bind_some, true_and, and_true, forall_const, true_implies, Bool.not_eq_true, Bool.false_eq_true, false_implies, ite_self, Nat.mul_one, Bool.not_true]
      refine m_cond (t := false) (by simp [evalT, FT.get_set, FT.setL, faS_ptr, nilS_ptr, nilS_func, nilS_yield, pickS_bool, ldS_ptr, list_cells, list_ro, partS_none, lenSl_of, lenStr_of, cvInt_of, aminmax_max, aminmax_min, abin_add, abin_sub, abin_mul, abin_eql, abin_neq, abin_lss, abin_leq, abin_gtr, abin_geq, aunary_not, aextract]) (fun h => by cases h) (fun _ => m_skip ?_)
      simp only
      exact next _ S3 _ hj3 (by simp [FT.get_set, FT.setL, faS_ptr, nilS_ptr, nilS_func, nilS_yield, pickS_bool, ldS_ptr, list_cells, list_ro, partS_none, lenSl_of, lenStr_of, cvInt_of, aminmax_max, aminmax_min, abin_add, abin_sub, abin_mul, abin_eql, abin_neq, abin_lss, abin_leq, abin_gtr, abin_geq, aunary_not, aextract, t11]) (by simp [FT.get_set, FT.setL, faS_ptr, nilS_ptr, nilS_func, nilS_yield, pickS_bool, ldS_ptr, list_cells, list_ro, partS_none, lenSl_of, lenStr_of, cvInt_of, aminmax_max, aminmax_min, abin_add, abin_sub, abin_mul, abin_eql, abin_neq, abin_lss, abin_leq, abin_gtr, abin_geq, aunary_not, aextract, t0]) (by simp [FT.get_set, FT.setL, faS_ptr, nilS_ptr, nilS_func, nilS_yield, pickS_bool, ldS_ptr, list_cells, list_ro, partS_none, lenSl_of, lenStr_of, cvInt_of, aminmax_max, aminmax_min, abin_add, abin_sub, abin_mul, abin_eql, abin_neq, abin_lss, abin_leq, abin_gtr, abin_geq, aunary_not, aextract]) (by simp [FT.get_set, FT.setL, faS_ptr, nilS_ptr, nilS_func, nilS_yield, pickS_bool, ldS_ptr, list_cells, list_ro, partS_none, lenSl_of, lenStr_of, cvInt_of, aminmax_max, aminmax_min, abin_add, abin_sub, abin_mul, abin_eql, abin_neq, abin_lss, abin_leq, abin_gtr, abin_geq, aunary_not, aextract]) (by simp [FT.get_set, FT.setL, faS_ptr, nilS_ptr, nilS_func, nilS_yield, pickS_bool, ldS_ptr, list_cells, list_ro, partS_none, lenSl_of, lenStr_of, cvInt_of, aminmax_max, aminmax_min, abin_add, abin_sub, abin_mul, abin_eql, abin_neq, abin_lss, abin_leq, abin_gtr, abin_geq, aunary_not, aextract]) (by simp [FT.get_set, FT.setL, faS_ptr, nilS_ptr, nilS_func, nilS_yield, pickS_bool, ldS_ptr, list_cells, list_ro, partS_none, lenSl_of, lenStr_of, cvInt_of, aminmax_max, aminmax_min, abin_add, abin_sub, abin_mul, abin_eql, abin_neq, abin_lss, abin_leq, abin_gtr, abin_geq, aunary_not, aextract]) fun T'' h => h
    · have e1 : decide (x.1 > n) = false := decide_eq_false hxt
      simp (decide := true) only [FT.get_set, FT.setL, faS_ptr, nilS_ptr, nilS_func, nilS_yield, pickS_bool, ldS_ptr, list_cells, list_ro, partS_none, lenSl_of, lenStr_of, cvInt_of, aminmax_max, aminmax_min, abin_add, abin_sub, abin_mul, abin_eql, abin_neq, abin_lss, abin_leq, abin_gtr, abin_geq, aunary_not, aextract, Option.some.injEq, Prod.mk.injEq, Value.bool.injEq, exists_eq_left', exists_and_left, and_assoc, decide_eq_true_eq, decide_eq_false_iff_not, if_true, if_false, Nat.zero_add, Nat.add_zero, Option.bind_some, true_and, and_true, forall_const, true_implies, Bool.not_eq_true, Bool.false_eq_true, false_implies, ite_self, Nat.mul_one, t0, t2, list_of hs2, list_of hb2', el0, List.getElem?_cons_zero, e1, partS_em]
      refine m_cond (t := false) (by simp [evalT, FT.get_set, FT.setL, faS_ptr, nilS_ptr, nilS_func, nilS_yield, pickS_bool, ldS_ptr, list_cells, list_ro, partS_none, lenSl_of, lenStr_of, cvInt_of, aminmax_max, aminmax_min, abin_add, abin_sub, abin_mul, abin_eql, abin_neq, abin_lss, abin_leq, abin_gtr, abin_geq, aunary_not, aextract]) (fun h => by cases h) (fun _ => m_skip ?_)
      simp only
      exact next _ S2 _ (skip k S2 x hj2 hx hxt) (by simp [FT.get_set, FT.setL, faS_ptr, nilS_ptr, nilS_func, nilS_yield, pickS_bool, ldS_ptr, list_cells, list_ro, partS_none, lenSl_of, lenStr_of, cvInt_of, aminmax_max, aminmax_min, abin_add, abin_sub, abin_mul, abin_eql, abin_neq, abin_lss, abin_leq, abin_gtr, abin_geq, aunary_not, aextract, t11]) (by simp [FT.get_set, FT.setL, faS_ptr, nilS_ptr, nilS_func, nilS_yield, pickS_bool, ldS_ptr, list_cells, list_ro, partS_none, lenSl_of, lenStr_of, cvInt_of, aminmax_max, aminmax_min, abin_add, abin_sub, abin_mul, abin_eql, abin_neq, abin_lss, abin_leq, abin_gtr, abin_geq, aunary_not, aextract]) (by simp [FT.get_set, FT.setL, faS_ptr, nilS_ptr, nilS_func, nilS_yield, pickS_bool, ldS_ptr, list_cells, list_ro, partS_none, lenSl_of, lenStr_of, cvInt_of, aminmax_max, aminmax_min, abin_add, abin_sub, abin_mul, abin_eql, abin_neq, abin_lss, abin_leq, abin_gtr, abin_geq, aunary_not, aextract]) (by simp [FT.get_set, FT.setL, faS_ptr, nilS_ptr, nilS_func, nilS_yield, pickS_bool, ldS_ptr, list_cells, list_ro, partS_none, lenSl_of, lenStr_of, cvInt_of, aminmax_max, aminmax_min, abin_add, abin_sub, abin_mul, abin_eql, abin_neq, abin_lss, abin_leq, abin_gtr, abin_geq, aunary_not, aextract]) (by simp [FT.get_set, FT.setL, faS_ptr, nilS_ptr, nilS_func, nilS_yield, pickS_bool, ldS_ptr, list_cells, list_ro, partS_none, lenSl_of, lenStr_of, cvInt_of, aminmax_max, aminmax_min, abin_add, abin_sub, abin_mul, abin_eql, abin_neq, abin_lss, abin_leq, abin_gtr, abin_geq, aunary_not, aextract]) (by simp [FT.get_set, FT.setL, faS_ptr, nilS_ptr, nilS_func, nilS_yield, pickS_bool, ldS_ptr, list_cells, list_ro, partS_none, lenSl_of, lenStr_of, cvInt_of, aminmax_max, aminmax_min, abin_add, abin_sub, abin_mul, abin_eql, abin_neq, abin_lss, abin_leq, abin_gtr, abin_geq, aunary_not, aextract]) fun T'' h => h
  · have hlt : ¬ k < ls.length := by have := of_decide_eq_false hlt; omega
    have hkn : k = ls.length := by omega
    simp [resM, oneOrTuple]
    rw [← hkn]; exact hj
end Go.Proofs.Ytikdcdccpbnaeaa

