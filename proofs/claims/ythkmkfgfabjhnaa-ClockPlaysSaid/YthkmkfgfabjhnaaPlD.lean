/-
  The walk through both clocks' code: what its functions do to memory, part PlD. Nothing is asked.
-/
import Derived.Test.YthkmkfgfabjhnaaPlC
import Derived.Test.YthkmkfgfabjhnaaPl7
set_option linter.all false
namespace Go.Proofs.Ythkmkfgfabjhnaa
open Go Go.Ag
set_option linter.unusedVariables false
set_option maxRecDepth 100000

/-- Set, of the reference, where there is room -/
theorem set14 {S : MS} {r B : Nat} {now next d : Int} {w : Value} {l : List Tm} {nm : ByteArray} {aa : Option Addr} {an ac : Nat} (h : IsC S r B now next w l) (hB : B ≤ S.n) (hd : 1 ≤ d ∧ d ≤ 1000) (hl : l.length < 12) (hn : 0 ≤ now ∧ now ≤ 4611686018427387904) (hx : 0 ≤ next ∧ next ≤ 4611686018427387904)
    {Q : Value → MS → Prop} (hq : ∀ w' S', S.n ≤ S'.n → (∀ y, y < S.n → y ≠ r → Av w y → S'.m y = S.m y) → (∀ y, y < S.n → Av w y → Av w' y) → IsC S' r B now (next + 1) w' (l ++ [⟨now + d, next, nm, aa, an, ac⟩]) → Q (.tuple #[.int .i64 next, .int .i64 0]) S') :
    CallM Try.prog O 14 [.pointer (some ⟨r, 0, none⟩), .agg (plL d nm aa an ac).toArray] S Q := by
  refine callM_wf fun wf => ?_
  have hcn := wf _ _ h.1
  have hcB := h.2.2
  refine callM_body (fnIs is14 body14 res14) (O_none (by decide)) (by simp) ?_
  refine m_seq (m_reg ?_)
  rw [reg14_0]
  have hcells : (Value.cells (.agg (plL d nm aa an ac).toArray)).toList = plL d nm aa an ac := rfl
  simp (decide := true) only [FT.get_set, FT.setL, faS_ptr, nilS_ptr, nilS_func, nilS_yield, pickS_bool, ldS_ptr, list_cells, list_ro, partS_none, lenSl_of, lenStr_of, cvInt_of, aminmax_max, aminmax_min, abin_add, abin_sub, abin_mul, abin_eql, abin_neq, abin_lss, abin_leq, abin_gtr, abin_geq, aunary_not, aextract, Option.some.injEq, Prod.mk.injEq, Value.bool.injEq, exists_eq_left', exists_and_left, and_assoc, decide_eq_true_eq, decide_eq_false_iff_not, if_true, if_false, Nat.zero_add, Nat.add_zero, Option.bind_some, true_and, and_true, forall_const, true_implies, Bool.not_eq_true, Bool.false_eq_true, false_implies, ite_self, Nat.mul_one, hcells, ptrTo]
  have wf1 := wf_fresh' wf (plL d nm aa an ac) 0
  have f1 := old_fresh S (plL d nm aa an ac) 0
  have h1 := h.keep wf f1.2
  have hpb := fresh_at S (plL d nm aa an ac) 0
  have p0 : (plL d nm aa an ac)[0]? = some (.int .i64 d) := rfl
  refine m_seq (m_seq (m_reg ?_))
  rw [reg14_1]
  have d1 : decide (d < 1) = false := decide_eq_false (by omega)
  have d2 : decide (d > 1000) = false := decide_eq_false (by omega)
  simp (decide := true) only [FT.get_set, FT.setL, faS_ptr, nilS_ptr, nilS_func, nilS_yield, pickS_bool, ldS_ptr, list_cells, list_ro, partS_none, lenSl_of, lenStr_of, cvInt_of, aminmax_max, aminmax_min, abin_add, abin_sub, abin_mul, abin_eql, abin_neq, abin_lss, abin_leq, abin_gtr, abin_geq, aunary_not, aextract, Option.some.injEq, Prod.mk.injEq, Value.bool.injEq, exists_eq_left', exists_and_left, and_assoc, decide_eq_true_eq, decide_eq_false_iff_not, if_true, if_false, Nat.zero_add, Nat.add_zero, Option.bind_some, true_and, and_true, forall_const, true_implies, Bool.not_eq_true, Bool.false_eq_true, false_implies, ite_self, Nat.mul_one, list_of hpb, p0, d1, d2]
  refine m_cond (t := false) (by simp [evalT, FT.get_set, FT.setL, faS_ptr, nilS_ptr, nilS_func, nilS_yield, pickS_bool, ldS_ptr, list_cells, list_ro, partS_none, lenSl_of, lenStr_of, cvInt_of, aminmax_max, aminmax_min, abin_add, abin_sub, abin_mul, abin_eql, abin_neq, abin_lss, abin_leq, abin_gtr, abin_geq, aunary_not, aextract]) (fun h => by cases h) (fun _ => m_skip ?_)
  simp only
  refine m_seq (m_seq (m_reg ?_))
  rw [reg14_3]
  have d3 : decide ((l.length : Int) ≥ 12) = false := decide_eq_false (by omega)
  simp (decide := true) only [FT.get_set, FT.setL, faS_ptr, nilS_ptr, nilS_func, nilS_yield, pickS_bool, ldS_ptr, list_cells, list_ro, partS_none, lenSl_of, lenStr_of, cvInt_of, aminmax_max, aminmax_min, abin_add, abin_sub, abin_mul, abin_eql, abin_neq, abin_lss, abin_leq, abin_gtr, abin_geq, aunary_not, aextract, Option.some.injEq, Prod.mk.injEq, Value.bool.injEq, exists_eq_left', exists_and_left, and_assoc, decide_eq_true_eq, decide_eq_false_iff_not, if_true, if_false, Nat.zero_add, Nat.add_zero, Option.bind_some, true_and, and_true, forall_const, true_implies, Bool.not_eq_true, Bool.false_eq_true, false_implies, ite_self, Nat.mul_one, list_of h1.1, List.getElem?_cons_zero, List.getElem?_cons_succ, h1.2.1.lenSl, d3]
  refine m_cond (t := false) (by simp [evalT, FT.get_set, FT.setL, faS_ptr, nilS_ptr, nilS_func, nilS_yield, pickS_bool, ldS_ptr, list_cells, list_ro, partS_none, lenSl_of, lenStr_of, cvInt_of, aminmax_max, aminmax_min, abin_add, abin_sub, abin_mul, abin_eql, abin_neq, abin_lss, abin_leq, abin_gtr, abin_geq, aunary_not, aextract]) (fun h => by cases h) (fun _ => m_skip ?_)
  simp only
  refine m_seq (m_draw ?_)
  rw [reg14_5]
  have hw : IntKind.i64.wrap (now + d) = now + d := wrap_i64 (by omega) (by omega)
  have wf2 := wf_fresh' wf1 (tmL ⟨now + d, next, nm, aa, an, ac⟩) 4
  have f2 := old_fresh (S.fresh (plL d nm aa an ac) 0) (tmL ⟨now + d, next, nm, aa, an, ac⟩) 4
  have h2 := h1.keep wf1 f2.2
  obtain ⟨w', S3, a1, a2, a3, a4, a5⟩ := h2.2.1.app2 (bytes := 56) (z := [.int .i64 0, .int .i64 0, .string ⟨⟨[]⟩⟩, .slice none 0 0]) tm_len tm_one (by decide) (x := .slice (some ⟨(S.fresh (plL d nm aa an ac) 0).n, 0, none⟩) 1 1) (new := [⟨now + d, next, nm, aa, an, ac⟩]) wf2 (by simp only [fresh_n]; omega) rfl (firstTm _ _) (by simp; omega) (by simp; omega)
  have hcw : Av w' r := a5 r (by simp only [fresh_n]; omega) hcB
  have hc3 := (a4 r (by simp only [fresh_n]; omega) hcB).trans h2.1
  obtain ⟨S4, u1, u2, u3, u4⟩ := st_one (off := 2) (v := w') hc3 (by simp) (SlF.one a2).1 (SlF.one a2).2
  simp (decide := true) only [FT.get_set, FT.setL, faS_ptr, nilS_ptr, nilS_func, nilS_yield, pickS_bool, ldS_ptr, list_cells, list_ro, partS_none, lenSl_of, lenStr_of, cvInt_of, aminmax_max, aminmax_min, abin_add, abin_sub, abin_mul, abin_eql, abin_neq, abin_lss, abin_leq, abin_gtr, abin_geq, aunary_not, aextract, Option.some.injEq, Prod.mk.injEq, Value.bool.injEq, exists_eq_left', exists_and_left, and_assoc, decide_eq_true_eq, decide_eq_false_iff_not, if_true, if_false, Nat.zero_add, Nat.add_zero, Option.bind_some, true_and, and_true, forall_const, true_implies, Bool.not_eq_true, Bool.false_eq_true, false_implies, ite_self, Nat.mul_one, list_of h1.1, list_of hpb, p0, partS_pl, List.getElem?_cons_zero, List.getElem?_cons_succ, hw, bd_tm, bs_tm, a1]
  refine ⟨S4, by simpa using u1, ?_⟩
  have hw4 : SlF tmL 4 S4 B w' (l ++ [⟨now + d, next, nm, aa, an, ac⟩]) := a2.keep1 fun y k hy _ => u4 y fun e => by subst e; exact hy hcw
  have hc4 : S4.m r = some (.cells [.int .i64 now, .int .i64 next, w'] 0) := u2
  have hn3 : S.n + 2 ≤ S3.n := by have := a3; simp only [fresh_n] at this; omega
  have hwx : IntKind.i64.wrap (next + 1) = next + 1 := wrap_i64 (by omega) (by omega)
  have hwy : IntKind.i64.wrap (next + 1 - 1) = next := by rw [wrap_i64 (by omega) (by omega)]; omega
  obtain ⟨S6, v1, v2, v3, v4⟩ := st_one (off := 1) (v := .int .i64 (next + 1)) hc4 (by simp) rfl rfl
  refine m_seq (m_reg ?_)
  rw [reg14_6]
  simp (decide := true) only [FT.get_set, FT.setL, faS_ptr, nilS_ptr, nilS_func, nilS_yield, pickS_bool, ldS_ptr, list_cells, list_ro, partS_none, lenSl_of, lenStr_of, cvInt_of, aminmax_max, aminmax_min, abin_add, abin_sub, abin_mul, abin_eql, abin_neq, abin_lss, abin_leq, abin_gtr, abin_geq, aunary_not, aextract, Option.some.injEq, Prod.mk.injEq, Value.bool.injEq, exists_eq_left', exists_and_left, and_assoc, decide_eq_true_eq, decide_eq_false_iff_not, if_true, if_false, Nat.zero_add, Nat.add_zero, Option.bind_some, true_and, and_true, forall_const, true_implies, Bool.not_eq_true, Bool.false_eq_true, false_implies, ite_self, Nat.mul_one, list_of hc4, List.getElem?_cons_zero, List.getElem?_cons_succ, hwx]
  refine ⟨S6, by simpa using v1, ?_⟩
  have hc6 : S6.m r = some (.cells [.int .i64 now, .int .i64 (next + 1), w'] 0) := v2
  refine m_seq (m_reg ?_)
  rw [reg14_7]
  simp (decide := true) only [FT.get_set, FT.setL, faS_ptr, nilS_ptr, nilS_func, nilS_yield, pickS_bool, ldS_ptr, list_cells, list_ro, partS_none, lenSl_of, lenStr_of, cvInt_of, aminmax_max, aminmax_min, abin_add, abin_sub, abin_mul, abin_eql, abin_neq, abin_lss, abin_leq, abin_gtr, abin_geq, aunary_not, aextract, Option.some.injEq, Prod.mk.injEq, Value.bool.injEq, exists_eq_left', exists_and_left, and_assoc, decide_eq_true_eq, decide_eq_false_iff_not, if_true, if_false, Nat.zero_add, Nat.add_zero, Option.bind_some, true_and, and_true, forall_const, true_implies, Bool.not_eq_true, Bool.false_eq_true, false_implies, ite_self, Nat.mul_one, list_of hc6, List.getElem?_cons_zero, List.getElem?_cons_succ, hwy]
  refine m_ret ?_
  simp [resM, FT.get_set, FT.setL, faS_ptr, nilS_ptr, nilS_func, nilS_yield, pickS_bool, ldS_ptr, list_cells, list_ro, partS_none, lenSl_of, lenStr_of, cvInt_of, aminmax_max, aminmax_min, abin_add, abin_sub, abin_mul, abin_eql, abin_neq, abin_lss, abin_leq, abin_gtr, abin_geq, aunary_not, aextract, oneOrTuple]
  have hav : ∀ y, y < S.n → Av w y → Av w' y := fun y hy hv => a5 y (by simp only [fresh_n]; omega) hv
  refine hq w' S6 (by omega) (fun y hy hne hv => ?_) hav ⟨hc6, hw4.keep1 fun y k hy _ => v4 y fun e => by subst e; exact hy hcw, hcw⟩
  rw [v4 y hne, u4 y hne, a4 y (by simp only [fresh_n]; omega) hv, f2.2 y (by simp only [fresh_n]; omega), f1.2 y hy]

theorem set14x {S : MS} {c B : Nat} {now next d : Int} {w : Value} {l : List Tm} {nm : ByteArray} {aa : Option Addr} {an ac : Nat} (h : IsC S c B now next w l) (hbad : (d < 1 ∨ d > 1000) ∨ l.length ≥ 12)
    {Q : Value → MS → Prop} (hq : ∀ S', Old S S' → Q (.tuple #[.int .i64 0, .int .i64 (if d < 1 ∨ d > 1000 then 221 else 220)]) S') :
    CallM Try.prog O 14 [.pointer (some ⟨c, 0, none⟩), .agg (plL d nm aa an ac).toArray] S Q := by
  refine callM_wf fun wf => ?_
  refine callM_body (fnIs is14 body14 res14) (O_none (by decide)) (by simp) ?_
  refine m_seq (m_reg ?_)
  rw [reg14_0]
  have hcells : (Value.cells (.agg (plL d nm aa an ac).toArray)).toList = plL d nm aa an ac := rfl
  simp (decide := true) only [FT.get_set, FT.setL, faS_ptr, nilS_ptr, nilS_func, nilS_yield, pickS_bool, ldS_ptr, list_cells, list_ro, partS_none, lenSl_of, lenStr_of, cvInt_of, aminmax_max, aminmax_min, abin_add, abin_sub, abin_mul, abin_eql, abin_neq, abin_lss, abin_leq, abin_gtr, abin_geq, aunary_not, aextract, Option.some.injEq, Prod.mk.injEq, Value.bool.injEq, exists_eq_left', exists_and_left, and_assoc, decide_eq_true_eq, decide_eq_false_iff_not, if_true, if_false, Nat.zero_add, Nat.add_zero, Option.bind_some, true_and, and_true, forall_const, true_implies, Bool.not_eq_true, Bool.false_eq_true, false_implies, ite_self, Nat.mul_one, hcells, ptrTo]
  have f1 := old_fresh S (plL d nm aa an ac) 0
  have h1 := h.keep wf f1.2
  have hpb := fresh_at S (plL d nm aa an ac) 0
  have p0 : (plL d nm aa an ac)[0]? = some (.int .i64 d) := rfl
  have bad : ∀ T, T.get 13 = .bool true → ∀ R : AExit → FT → MS → Prop, (∀ T', T'.get 4 = .int .i64 0 → T'.get 5 = .int .i64 221 → R .ret T' (S.fresh (plL d nm aa an ac) 0)) → MWp Try.prog O 55 (.cond (.tmp 13) (.seq (.region 2 (ro 14 2) false) .ret) .skip) T (S.fresh (plL d nm aa an ac) 0) R := by
    intro T h6 R hR
    refine m_cond (t := true) h6 (fun _ => ?_) (fun h => by cases h)
    refine m_seq (m_reg ?_)
    rw [reg14_2]
    exact m_ret (hR _ (by simp [FT.get_set, FT.setL, faS_ptr, nilS_ptr, nilS_func, nilS_yield, pickS_bool, ldS_ptr, list_cells, list_ro, partS_none, lenSl_of, lenStr_of, cvInt_of, aminmax_max, aminmax_min, abin_add, abin_sub, abin_mul, abin_eql, abin_neq, abin_lss, abin_leq, abin_gtr, abin_geq, aunary_not, aextract]) (by simp [FT.get_set, FT.setL, faS_ptr, nilS_ptr, nilS_func, nilS_yield, pickS_bool, ldS_ptr, list_cells, list_ro, partS_none, lenSl_of, lenStr_of, cvInt_of, aminmax_max, aminmax_min, abin_add, abin_sub, abin_mul, abin_eql, abin_neq, abin_lss, abin_leq, abin_gtr, abin_geq, aunary_not, aextract]))
  refine m_seq (m_seq (m_reg ?_))
  rw [reg14_1]
  by_cases hd1 : d < 1
  · have d1 : decide (d < 1) = true := decide_eq_true hd1
    simp (decide := true) only [FT.get_set, FT.setL, faS_ptr, nilS_ptr, nilS_func, nilS_yield, pickS_bool, ldS_ptr, list_cells, list_ro, partS_none, lenSl_of, lenStr_of, cvInt_of, aminmax_max, aminmax_min, abin_add, abin_sub, abin_mul, abin_eql, abin_neq, abin_lss, abin_leq, abin_gtr, abin_geq, aunary_not, aextract, Option.some.injEq, Prod.mk.injEq, Value.bool.injEq, exists_eq_left', exists_and_left, and_assoc, decide_eq_true_eq, decide_eq_false_iff_not, if_true, if_false, Nat.zero_add, Nat.add_zero, Option.bind_some, true_and, and_true, forall_const, true_implies, Bool.not_eq_true, Bool.false_eq_true, false_implies, ite_self, Nat.mul_one, list_of hpb, p0, d1]
    refine bad _ (by simp [FT.get_set, FT.setL, faS_ptr, nilS_ptr, nilS_func, nilS_yield, pickS_bool, ldS_ptr, list_cells, list_ro, partS_none, lenSl_of, lenStr_of, cvInt_of, aminmax_max, aminmax_min, abin_add, abin_sub, abin_mul, abin_eql, abin_neq, abin_lss, abin_leq, abin_gtr, abin_geq, aunary_not, aextract]) _ fun T' g4 g5 => ?_
    simp only
    simp [resM, oneOrTuple, g4, g5]
    have := hq _ f1
    rw [if_pos (.inl hd1)] at this
    exact this
  have d1 : decide (d < 1) = false := decide_eq_false hd1
  by_cases hd2 : d > 1000
  · have d2 : decide (d > 1000) = true := decide_eq_true hd2
    simp (decide := true) only [FT.get_set, FT.setL, faS_ptr, nilS_ptr, nilS_func, nilS_yield, pickS_bool, ldS_ptr, list_cells, list_ro, partS_none, lenSl_of, lenStr_of, cvInt_of, aminmax_max, aminmax_min, abin_add, abin_sub, abin_mul, abin_eql, abin_neq, abin_lss, abin_leq, abin_gtr, abin_geq, aunary_not, aextract, Option.some.injEq, Prod.mk.injEq, Value.bool.injEq, exists_eq_left', exists_and_left, and_assoc, decide_eq_true_eq, decide_eq_false_iff_not, if_true, if_false, Nat.zero_add, Nat.add_zero, Option.bind_some, true_and, and_true, forall_const, true_implies, Bool.not_eq_true, Bool.false_eq_true, false_implies, ite_self, Nat.mul_one, list_of hpb, p0, d1, d2]
    refine bad _ (by simp [FT.get_set, FT.setL, faS_ptr, nilS_ptr, nilS_func, nilS_yield, pickS_bool, ldS_ptr, list_cells, list_ro, partS_none, lenSl_of, lenStr_of, cvInt_of, aminmax_max, aminmax_min, abin_add, abin_sub, abin_mul, abin_eql, abin_neq, abin_lss, abin_leq, abin_gtr, abin_geq, aunary_not, aextract]) _ fun T' g4 g5 => ?_
    simp only
    simp [resM, oneOrTuple, g4, g5]
    have := hq _ f1
    rw [if_pos (.inr hd2)] at this
    exact this
  have d2 : decide (d > 1000) = false := decide_eq_false hd2
  simp (decide := true) only [FT.get_set, FT.setL, faS_ptr, nilS_ptr, nilS_func, nilS_yield, pickS_bool, ldS_ptr, list_cells, list_ro, partS_none, lenSl_of, lenStr_of, cvInt_of, aminmax_max, aminmax_min, abin_add, abin_sub, abin_mul, abin_eql, abin_neq, abin_lss, abin_leq, abin_gtr, abin_geq, aunary_not, aextract, Option.some.injEq, Prod.mk.injEq, Value.bool.injEq, exists_eq_left', exists_and_left, and_assoc, decide_eq_true_eq, decide_eq_false_iff_not, if_true, if_false, Nat.zero_add, Nat.add_zero, Option.bind_some, true_and, and_true, forall_const, true_implies, Bool.not_eq_true, Bool.false_eq_true, false_implies, ite_self, Nat.mul_one, list_of hpb, p0, d1, d2]
  refine m_cond (t := false) (by simp [evalT, FT.get_set, FT.setL, faS_ptr, nilS_ptr, nilS_func, nilS_yield, pickS_bool, ldS_ptr, list_cells, list_ro, partS_none, lenSl_of, lenStr_of, cvInt_of, aminmax_max, aminmax_min, abin_add, abin_sub, abin_mul, abin_eql, abin_neq, abin_lss, abin_leq, abin_gtr, abin_geq, aunary_not, aextract]) (fun h => by cases h) (fun _ => m_skip ?_)
  simp only
  refine m_seq (m_seq (m_reg ?_))
  rw [reg14_3]
  have d3 : decide ((l.length : Int) ≥ 12) = true := decide_eq_true (by omega)
  simp (decide := true) only [FT.get_set, FT.setL, faS_ptr, nilS_ptr, nilS_func, nilS_yield, pickS_bool, ldS_ptr, list_cells, list_ro, partS_none, lenSl_of, lenStr_of, cvInt_of, aminmax_max, aminmax_min, abin_add, abin_sub, abin_mul, abin_eql, abin_neq, abin_lss, abin_leq, abin_gtr, abin_geq, aunary_not, aextract, Option.some.injEq, Prod.mk.injEq, Value.bool.injEq, exists_eq_left', exists_and_left, and_assoc, decide_eq_true_eq, decide_eq_false_iff_not, if_true, if_false, Nat.zero_add, Nat.add_zero, Option.bind_some, true_and, and_true, forall_const, true_implies, Bool.not_eq_true, Bool.false_eq_true, false_implies, ite_self, Nat.mul_one, list_of h1.1, List.getElem?_cons_zero, List.getElem?_cons_succ, h1.2.1.lenSl, d3]
  refine m_cond (t := true) (by simp [evalT, FT.get_set, FT.setL, faS_ptr, nilS_ptr, nilS_func, nilS_yield, pickS_bool, ldS_ptr, list_cells, list_ro, partS_none, lenSl_of, lenStr_of, cvInt_of, aminmax_max, aminmax_min, abin_add, abin_sub, abin_mul, abin_eql, abin_neq, abin_lss, abin_leq, abin_gtr, abin_geq, aunary_not, aextract]) (fun _ => ?_) (fun h => by cases h)
  refine m_seq (m_reg ?_)
  rw [reg14_4]
  refine m_ret ?_
  simp [resM, oneOrTuple, FT.get_set, FT.setL, faS_ptr, nilS_ptr, nilS_func, nilS_yield, pickS_bool, ldS_ptr, list_cells, list_ro, partS_none, lenSl_of, lenStr_of, cvInt_of, aminmax_max, aminmax_min, abin_add, abin_sub, abin_mul, abin_eql, abin_neq, abin_lss, abin_leq, abin_gtr, abin_geq, aunary_not, aextract]
  have := hq _ f1
  rw [if_neg (by omega)] at this
  exact this

def TI16 (S0 S1 : MS) (r : Nat) (v : Value) (L : List Tm) (now : Int) (m : Nat) (T : FT) (S : MS) : Prop :=
  ∃ k : Nat, k + m = L.length ∧ k ≤ dueN now L ∧ S = S1 ∧ T.get 0 = .pointer (some ⟨r, 0, none⟩) ∧ T.get 3 = v ∧ T.get 4 = .int .i64 k
def TJ16 (S0 S1 : MS) (r : Nat) (v : Value) (R : List Tm) (now : Int) (n : Nat) (m : Nat) (T : FT) (S : MS) : Prop :=
  ∃ (k : Nat) (w : Value), k + m = R.length ∧ Old S1 S ∧ SlF tmL 4 S S1.n w ((R.take k).filter fun x => decide (x.t > now)) ∧ T.get 0 = .pointer (some ⟨r, 0, none⟩) ∧ T.get 3 = v ∧ T.get 4 = .int .i64 n ∧ T.get 5 = w ∧ T.get 6 = .int .i64 k

/-- Tick, of the reference -/
theorem tick16 {S : MS} {r B : Nat} {now next : Int} {w : Value} {R : List Tm} (h : IsC S r B now next w R) (hB : B ≤ S.n) (hn : 0 ≤ now ∧ now ≤ 4611686018427387904) (hls : R.length ≤ 100000)
    {Q : Value → MS → Prop} (hq : ∀ v w' S', S.n ≤ S'.n → (∀ y, y < S.n → y ≠ r → S'.m y = S.m y) → (∀ y, y < S.n → Av w' y) → IsC S' r B (now + 1) next w' (R.filter fun x => decide (x.t > now + 1)) → SlF tmL 4 S' S.n v ((isort R).take (dueN (now + 1) (isort R))) → Q v S') :
    CallM Try.prog O 16 [.pointer (some ⟨r, 0, none⟩)] S Q := by
  refine callM_wf fun wf => ?_
  have hcn := wf _ _ h.1
  have hcB := h.2.2
  refine callM_body (fnIs is16 body16 res16) (O_none (by decide)) (by simp) ?_
  refine m_seq (m_reg ?_)
  rw [reg16_0]
  refine m_seq (m_reg ?_)
  rw [reg16_1]
  have hw1 : IntKind.i64.wrap (now + 1) = now + 1 := wrap_i64 (by omega) (by omega)
  obtain ⟨S1, u1, u2, u3, u4⟩ := st_one (off := 0) (v := .int .i64 (now + 1)) h.1 (by simp) rfl rfl
  simp (decide := true) only [FT.get_set, FT.setL, faS_ptr, nilS_ptr, nilS_func, nilS_yield, pickS_bool, ldS_ptr, list_cells, list_ro, partS_none, lenSl_of, lenStr_of, cvInt_of, aminmax_max, aminmax_min, abin_add, abin_sub, abin_mul, abin_eql, abin_neq, abin_lss, abin_leq, abin_gtr, abin_geq, aunary_not, aextract, Option.some.injEq, Prod.mk.injEq, Value.bool.injEq, exists_eq_left', exists_and_left, and_assoc, decide_eq_true_eq, decide_eq_false_iff_not, if_true, if_false, Nat.zero_add, Nat.add_zero, Option.bind_some, true_and, and_true, forall_const, true_implies, Bool.not_eq_true, Bool.false_eq_true, false_implies, ite_self, Nat.mul_one, list_of h.1, List.getElem?_cons_zero, hw1]
  refine ⟨S1, u1, ?_⟩
  have hc1 : IsC S1 r B (now + 1) next w R := ⟨u2, h.2.1.keep1 fun y k hy _ => u4 y fun e => by subst e; exact hy hcB, hcB⟩
  refine m_wf fun wf1 => m_seq (m_reg ?_)
  rw [reg16_2]
  simp (decide := true) only [FT.get_set, FT.setL, faS_ptr, nilS_ptr, nilS_func, nilS_yield, pickS_bool, ldS_ptr, list_cells, list_ro, partS_none, lenSl_of, lenStr_of, cvInt_of, aminmax_max, aminmax_min, abin_add, abin_sub, abin_mul, abin_eql, abin_neq, abin_lss, abin_leq, abin_gtr, abin_geq, aunary_not, aextract, Option.some.injEq, Prod.mk.injEq, Value.bool.injEq, exists_eq_left', exists_and_left, and_assoc, decide_eq_true_eq, decide_eq_false_iff_not, if_true, if_false, Nat.zero_add, Nat.add_zero, Option.bind_some, true_and, and_true, forall_const, true_implies, Bool.not_eq_true, Bool.false_eq_true, false_implies, ite_self, Nat.mul_one, ]
  refine callM_wf_post (wait18 hc1 hls fun v S2 f2 hv wf2 => ?_)
  have hc2 := hc1.keep wf1 f2.2
  have hn2 := f2.1
  have hLl : (isort R).length ≤ 100000 := by rw [isort_len]; exact hls
  refine m_seq (m_reg ?_)
  rw [reg16_3]
  unfold blk16_0
  refine m_seq (m_block (m_loop (fun m T S' => TI16 S S2 r v (isort R) (now + 1) m T S') (isort R).length ⟨0, by omega, Nat.zero_le _, rfl, by simp [FT.get_set, FT.setL, faS_ptr, nilS_ptr, nilS_func, nilS_yield, pickS_bool, ldS_ptr, list_cells, list_ro, partS_none, lenSl_of, lenStr_of, cvInt_of, aminmax_max, aminmax_min, abin_add, abin_sub, abin_mul, abin_eql, abin_neq, abin_lss, abin_leq, abin_gtr, abin_geq, aunary_not, aextract], by simp [FT.get_set, FT.setL, faS_ptr, nilS_ptr, nilS_func, nilS_yield, pickS_bool, ldS_ptr, list_cells, list_ro, partS_none, lenSl_of, lenStr_of, cvInt_of, aminmax_max, aminmax_min, abin_add, abin_sub, abin_mul, abin_eql, abin_neq, abin_lss, abin_leq, abin_gtr, abin_geq, aunary_not, aextract], by simp [FT.get_set, FT.setL, faS_ptr, nilS_ptr, nilS_func, nilS_yield, pickS_bool, ldS_ptr, list_cells, list_ro, partS_none, lenSl_of, lenStr_of, cvInt_of, aminmax_max, aminmax_min, abin_add, abin_sub, abin_mul, abin_eql, abin_neq, abin_lss, abin_leq, abin_gtr, abin_geq, aunary_not, aextract]⟩ ?_))
  rintro m T S3 ⟨k, hk, hkd, rfl, t0, t3, t4⟩
  refine m_seq (m_seq (m_draw ?_))
  rw [reg16_4]
  -- behind the loop
  have behind : ∀ T, T.get 0 = .pointer (some ⟨r, 0, none⟩) → T.get 3 = v → T.get 4 = .int .i64 k → k = dueN (now + 1) (isort R) → MWp Try.prog O 73 (.seq (.region 6 (ro 16 6) false) (.seq (.seq (.region 7 (ro 16 7) false) blk16_2) (.seq (.region 12 (ro 16 12) false) (.seq (.region 13 (ro 16 13) false) .ret)))) T S3 (fun x T' S' => (match x with | .exit _ => False | _ => True) ∧ ∃ vs, resM Try.prog T' S' [.tmp 2] = some vs ∧ Q (oneOrTuple vs) S') := by
    intro T t0 t3 t4 hkn
    refine m_seq (m_reg ?_)
    rw [reg16_6]
    refine m_seq (m_seq (m_reg ?_))
    rw [reg16_7]
    unfold blk16_2
    refine m_block (m_loop (fun m T S' => TJ16 S S3 r v R (now + 1) k m T S') R.length ⟨0, .slice none 0 0, by omega, Old.refl _, by rw [List.take_zero]; exact .non, by simp [FT.get_set, FT.setL, faS_ptr, nilS_ptr, nilS_func, nilS_yield, pickS_bool, ldS_ptr, list_cells, list_ro, partS_none, lenSl_of, lenStr_of, cvInt_of, aminmax_max, aminmax_min, abin_add, abin_sub, abin_mul, abin_eql, abin_neq, abin_lss, abin_leq, abin_gtr, abin_geq, aunary_not, aextract, t0], by simp [FT.get_set, FT.setL, faS_ptr, nilS_ptr, nilS_func, nilS_yield, pickS_bool, ldS_ptr, list_cells, list_ro, partS_none, lenSl_of, lenStr_of, cvInt_of, aminmax_max, aminmax_min, abin_add, abin_sub, abin_mul, abin_eql, abin_neq, abin_lss, abin_leq, abin_gtr, abin_geq, aunary_not, aextract, t3], by simp [FT.get_set, FT.setL, faS_ptr, nilS_ptr, nilS_func, nilS_yield, pickS_bool, ldS_ptr, list_cells, list_ro, partS_none, lenSl_of, lenStr_of, cvInt_of, aminmax_max, aminmax_min, abin_add, abin_sub, abin_mul, abin_eql, abin_neq, abin_lss, abin_leq, abin_gtr, abin_geq, aunary_not, aextract, t4], by simp [FT.get_set, FT.setL, faS_ptr, nilS_ptr, nilS_func, nilS_yield, pickS_bool, ldS_ptr, list_cells, list_ro, partS_none, lenSl_of, lenStr_of, cvInt_of, aminmax_max, aminmax_min, abin_add, abin_sub, abin_mul, abin_eql, abin_neq, abin_lss, abin_leq, abin_gtr, abin_geq, aunary_not, aextract], by simp [FT.get_set, FT.setL, faS_ptr, nilS_ptr, nilS_func, nilS_yield, pickS_bool, ldS_ptr, list_cells, list_ro, partS_none, lenSl_of, lenStr_of, cvInt_of, aminmax_max, aminmax_min, abin_add, abin_sub, abin_mul, abin_eql, abin_neq, abin_lss, abin_leq, abin_gtr, abin_geq, aunary_not, aextract]⟩ ?_)
    clear t0 t3 t4
    rintro m T S4 ⟨i, w5, hi, f4, hw5, t0, t3, t4, t5, t6⟩
    have hc4 := hc2.keep wf2 f4.2
    refine m_wf fun wf4 => m_seq (m_seq (m_reg ?_))
    rw [reg16_8]
    simp (decide := true) only [FT.get_set, FT.setL, faS_ptr, nilS_ptr, nilS_func, nilS_yield, pickS_bool, ldS_ptr, list_cells, list_ro, partS_none, lenSl_of, lenStr_of, cvInt_of, aminmax_max, aminmax_min, abin_add, abin_sub, abin_mul, abin_eql, abin_neq, abin_lss, abin_leq, abin_gtr, abin_geq, aunary_not, aextract, Option.some.injEq, Prod.mk.injEq, Value.bool.injEq, exists_eq_left', exists_and_left, and_assoc, decide_eq_true_eq, decide_eq_false_iff_not, if_true, if_false, Nat.zero_add, Nat.add_zero, Option.bind_some, true_and, and_true, forall_const, true_implies, Bool.not_eq_true, Bool.false_eq_true, false_implies, ite_self, Nat.mul_one, t0, t6, list_of hc4.1, List.getElem?_cons_zero, List.getElem?_cons_succ, hc4.2.1.lenSl]
    refine m_cond (t := decide ((i : Int) < R.length)) (by simp [evalT, FT.get_set, FT.setL, faS_ptr, nilS_ptr, nilS_func, nilS_yield, pickS_bool, ldS_ptr, list_cells, list_ro, partS_none, lenSl_of, lenStr_of, cvInt_of, aminmax_max, aminmax_min, abin_add, abin_sub, abin_mul, abin_eql, abin_neq, abin_lss, abin_leq, abin_gtr, abin_geq, aunary_not, aextract]) (fun hlt => m_skip ?_) (fun hlt => m_exit ?_)
    · have hlt : i < R.length := by have := of_decide_eq_true hlt; omega
      simp only
      obtain ⟨x, hx⟩ : ∃ x, R[i]? = some x := ⟨_, List.getElem?_eq_getElem hlt⟩
      obtain ⟨bb, L, q1, q2, q3⟩ := SlF.fld tm_len hc4.2.1 hx
      have q0 : L[i * 4]? = some (.int .i64 x.t) := q3 0 (by decide)
      obtain ⟨bb', _, q5, q6⟩ := hc4.2.1.at tm_len hx
      have hbb : bb' = bb := by rw [q1] at q5; cases q5; rfl
      subst hbb
      have hwi : IntKind.i64.wrap ((i : Int) + 1) = ((i + 1 : Nat) : Int) := by rw [wrap_i64 (by omega) (by omega)]; rfl
      have next : ∀ (T : FT) (S5 : MS) (w6 : Value) (Q' : AExit → FT → MS → Prop), Old S3 S5 → SlF tmL 4 S5 S3.n w6 ((R.take (i + 1)).filter fun x => decide (x.t > now + 1)) → T.get 0 = .pointer (some ⟨r, 0, none⟩) → T.get 3 = v → T.get 4 = .int .i64 k → T.get 5 = w6 → T.get 6 = .int .i64 i → (∀ T'' S'', (∃ k', k' < m ∧ TJ16 S S3 r v R (now + 1) k k' T'' S'') → Q' .normal T'' S'') → MWp Try.prog O 73 (.region 9 (ro 16 9) false) T S5 Q' := by
        intro T S5 w6 Q' g1 g2 g0 g3 g4 g5 g6 hq'
        refine m_reg ?_
        rw [reg16_9]
        simp (decide := true) only [FT.get_set, FT.setL, faS_ptr, nilS_ptr, nilS_func, nilS_yield, pickS_bool, ldS_ptr, list_cells, list_ro, partS_none, lenSl_of, lenStr_of, cvInt_of, aminmax_max, aminmax_min, abin_add, abin_sub, abin_mul, abin_eql, abin_neq, abin_lss, abin_leq, abin_gtr, abin_geq, aunary_not, aextract, Option.some.injEq, Prod.mk.injEq, Value.bool.injEq, exists_eq_left', exists_and_left, and_assoc, decide_eq_true_eq, decide_eq_false_iff_not, if_true, if_false, Nat.zero_add, Nat.add_zero, Option.bind_some, true_and, and_true, forall_const, true_implies, Bool.not_eq_true, Bool.false_eq_true, false_implies, ite_self, Nat.mul_one, g6, hwi]
        exact hq' _ _ ⟨m - 1, by omega, i + 1, w6, by omega, g1, g2, by simp [FT.get_set, FT.setL, faS_ptr, nilS_ptr, nilS_func, nilS_yield, pickS_bool, ldS_ptr, list_cells, list_ro, partS_none, lenSl_of, lenStr_of, cvInt_of, aminmax_max, aminmax_min, abin_add, abin_sub, abin_mul, abin_eql, abin_neq, abin_lss, abin_leq, abin_gtr, abin_geq, aunary_not, aextract, g0], by simp [FT.get_set, FT.setL, faS_ptr, nilS_ptr, nilS_func, nilS_yield, pickS_bool, ldS_ptr, list_cells, list_ro, partS_none, lenSl_of, lenStr_of, cvInt_of, aminmax_max, aminmax_min, abin_add, abin_sub, abin_mul, abin_eql, abin_neq, abin_lss, abin_leq, abin_gtr, abin_geq, aunary_not, aextract, g3], by simp [FT.get_set, FT.setL, faS_ptr, nilS_ptr, nilS_func, nilS_yield, pickS_bool, ldS_ptr, list_cells, list_ro, partS_none, lenSl_of, lenStr_of, cvInt_of, aminmax_max, aminmax_min, abin_add, abin_sub, abin_mul, abin_eql, abin_neq, abin_lss, abin_leq, abin_gtr, abin_geq, aunary_not, aextract, g4], by simp [FT.get_set, FT.setL, faS_ptr, nilS_ptr, nilS_func, nilS_yield, pickS_bool, ldS_ptr, list_cells, list_ro, partS_none, lenSl_of, lenStr_of, cvInt_of, aminmax_max, aminmax_min, abin_add, abin_sub, abin_mul, abin_eql, abin_neq, abin_lss, abin_leq, abin_gtr, abin_geq, aunary_not, aextract, g5], by simp [FT.get_set, FT.setL, faS_ptr, nilS_ptr, nilS_func, nilS_yield, pickS_bool, ldS_ptr, list_cells, list_ro, partS_none, lenSl_of, lenStr_of, cvInt_of, aminmax_max, aminmax_min, abin_add, abin_sub, abin_mul, abin_eql, abin_neq, abin_lss, abin_leq, abin_gtr, abin_geq, aunary_not, aextract]⟩
      unfold blk16_3
      refine m_seq (m_block (m_seq (m_draw ?_)))
      rw [reg16_10]
      simp (decide := true) only [FT.get_set, FT.setL, faS_ptr, nilS_ptr, nilS_func, nilS_yield, pickS_bool, ldS_ptr, list_cells, list_ro, partS_none, lenSl_of, lenStr_of, cvInt_of, aminmax_max, aminmax_min, abin_add, abin_sub, abin_mul, abin_eql, abin_neq, abin_lss, abin_leq, abin_gtr, abin_geq, aunary_not, aextract, Option.some.injEq, Prod.mk.injEq, Value.bool.injEq, exists_eq_left', exists_and_left, and_assoc, decide_eq_true_eq, decide_eq_false_iff_not, if_true, if_false, Nat.zero_add, Nat.add_zero, Option.bind_some, true_and, and_true, forall_const, true_implies, Bool.not_eq_true, Bool.false_eq_true, false_implies, ite_self, Nat.mul_one, t0, t6, list_of hc4.1, List.getElem?_cons_zero, List.getElem?_cons_succ, q1, q2, q0]
      by_cases hxt : x.t > now + 1
      · refine m_cond (t := true) (by simp [evalT, FT.get_set, FT.setL, faS_ptr, nilS_ptr, nilS_func, nilS_yield, pickS_bool, ldS_ptr, list_cells, list_ro, partS_none, lenSl_of, lenStr_of, cvInt_of, aminmax_max, aminmax_min, abin_add, abin_sub, abin_mul, abin_eql, abin_neq, abin_lss, abin_leq, abin_gtr, abin_geq, aunary_not, aextract, hxt]) (fun _ => m_reg ?_) (fun h => by cases h)
        rw [reg16_11]
        have wf5 := wf_fresh' wf4 (tmL x) 4
        have hw6 := hw5.keep (S' := S4.fresh (tmL x) 4) fun y k' hy => fresh_old _ _ _ (Nat.ne_of_lt (wf4 y k' hy))
        have hll : ((R.take i).filter fun x => decide (x.t > now + 1)).length ≤ 100000 := by
          have h1 := List.length_filter_le (fun x : Tm => decide (x.t > now + 1)) (R.take i)
          rw [List.length_take] at h1; omega
        obtain ⟨w7, S5, a1, a2, a3, a4, a5⟩ := hw6.app2 (bytes := 56) (z := [.int .i64 0, .int .i64 0, .string ⟨⟨[]⟩⟩, .slice none 0 0]) tm_len tm_one (by decide) (x := .slice (some ⟨S4.n, 0, none⟩) 1 1) (new := [x]) wf5 (by have := f4.1; simp only [fresh_n]; omega) rfl (firstTm _ _) (by simp only [List.length_singleton]; omega) (by simp only [List.length_singleton]; omega)
        simp (decide := true) only [FT.get_set, FT.setL, faS_ptr, nilS_ptr, nilS_func, nilS_yield, pickS_bool, ldS_ptr, list_cells, list_ro, partS_none, lenSl_of, lenStr_of, cvInt_of, aminmax_max, aminmax_min, abin_add, abin_sub, abin_mul, abin_eql, abin_neq, abin_lss, abin_leq, abin_gtr, abin_geq, aunary_not, aextract, Option.some.injEq, Prod.mk.injEq, Value.bool.injEq, exists_eq_left', exists_and_left, and_assoc, decide_eq_true_eq, decide_eq_false_iff_not, if_true, if_false, Nat.zero_add, Nat.add_zero, Option.bind_some, true_and, and_true, forall_const, true_implies, Bool.not_eq_true, Bool.false_eq_true, false_implies, ite_self, Nat.mul_one, t0, t5, t6, list_of hc4.1, List.getElem?_cons_zero, List.getElem?_cons_succ, q1, q6 S4 rfl, bs_tm, a1]
        have hf : (R.take (i + 1)).filter (fun x => decide (x.t > now + 1)) = (R.take i).filter (fun x => decide (x.t > now + 1)) ++ [x] := by
          rw [take_succ_of hx, List.filter_append, filter_one, if_pos (by simpa using hxt)]
        refine next _ S5 w7 _ ⟨by have := f4.1; simp only [fresh_n] at a3; omega, fun y hy => ?_⟩ (by rw [hf]; exact a2) (by simp [FT.get_set, FT.setL, faS_ptr, nilS_ptr, nilS_func, nilS_yield, pickS_bool, ldS_ptr, list_cells, list_ro, partS_none, lenSl_of, lenStr_of, cvInt_of, aminmax_max, aminmax_min, abin_add, abin_sub, abin_mul, abin_eql, abin_neq, abin_lss, abin_leq, abin_gtr, abin_geq, aunary_not, aextract, t0]) (by simp [FT.get_set, FT.setL, faS_ptr, nilS_ptr, nilS_func, nilS_yield, pickS_bool, ldS_ptr, list_cells, list_ro, partS_none, lenSl_of, lenStr_of, cvInt_of, aminmax_max, aminmax_min, abin_add, abin_sub, abin_mul, abin_eql, abin_neq, abin_lss, abin_leq, abin_gtr, abin_geq, aunary_not, aextract, t3]) (by simp [FT.get_set, FT.setL, faS_ptr, nilS_ptr, nilS_func, nilS_yield, pickS_bool, ldS_ptr, list_cells, list_ro, partS_none, lenSl_of, lenStr_of, cvInt_of, aminmax_max, aminmax_min, abin_add, abin_sub, abin_mul, abin_eql, abin_neq, abin_lss, abin_leq, abin_gtr, abin_geq, aunary_not, aextract, t4]) (by simp [FT.get_set, FT.setL, faS_ptr, nilS_ptr, nilS_func, nilS_yield, pickS_bool, ldS_ptr, list_cells, list_ro, partS_none, lenSl_of, lenStr_of, cvInt_of, aminmax_max, aminmax_min, abin_add, abin_sub, abin_mul, abin_eql, abin_neq, abin_lss, abin_leq, abin_gtr, abin_geq, aunary_not, aextract]) (by simp [FT.get_set, FT.setL, faS_ptr, nilS_ptr, nilS_func, nilS_yield, pickS_bool, ldS_ptr, list_cells, list_ro, partS_none, lenSl_of, lenStr_of, cvInt_of, aminmax_max, aminmax_min, abin_add, abin_sub, abin_mul, abin_eql, abin_neq, abin_lss, abin_leq, abin_gtr, abin_geq, aunary_not, aextract, t6]) fun T'' S'' h => h
        have := f4.1
        rw [a4 y (by simp only [fresh_n]; omega) (hw6.av hy), fresh_old _ _ _ (by omega)]; exact f4.2 y hy
      · refine m_cond (t := false) (by simp [evalT, FT.get_set, FT.setL, faS_ptr, nilS_ptr, nilS_func, nilS_yield, pickS_bool, ldS_ptr, list_cells, list_ro, partS_none, lenSl_of, lenStr_of, cvInt_of, aminmax_max, aminmax_min, abin_add, abin_sub, abin_mul, abin_eql, abin_neq, abin_lss, abin_leq, abin_gtr, abin_geq, aunary_not, aextract, hxt]) (fun h => by cases h) (fun _ => m_skip ?_)
        simp only
        have hf : (R.take (i + 1)).filter (fun x => decide (x.t > now + 1)) = (R.take i).filter (fun x => decide (x.t > now + 1)) := by
          rw [take_succ_of hx, List.filter_append, filter_one, if_neg (by simpa using hxt), List.append_nil]
        exact next _ S4 w5 _ f4 (by rw [hf]; exact hw5) (by simp [FT.get_set, FT.setL, faS_ptr, nilS_ptr, nilS_func, nilS_yield, pickS_bool, ldS_ptr, list_cells, list_ro, partS_none, lenSl_of, lenStr_of, cvInt_of, aminmax_max, aminmax_min, abin_add, abin_sub, abin_mul, abin_eql, abin_neq, abin_lss, abin_leq, abin_gtr, abin_geq, aunary_not, aextract, t0]) (by simp [FT.get_set, FT.setL, faS_ptr, nilS_ptr, nilS_func, nilS_yield, pickS_bool, ldS_ptr, list_cells, list_ro, partS_none, lenSl_of, lenStr_of, cvInt_of, aminmax_max, aminmax_min, abin_add, abin_sub, abin_mul, abin_eql, abin_neq, abin_lss, abin_leq, abin_gtr, abin_geq, aunary_not, aextract, t3]) (by simp [FT.get_set, FT.setL, faS_ptr, nilS_ptr, nilS_func, nilS_yield, pickS_bool, ldS_ptr, list_cells, list_ro, partS_none, lenSl_of, lenStr_of, cvInt_of, aminmax_max, aminmax_min, abin_add, abin_sub, abin_mul, abin_eql, abin_neq, abin_lss, abin_leq, abin_gtr, abin_geq, aunary_not, aextract, t4]) (by simp [FT.get_set, FT.setL, faS_ptr, nilS_ptr, nilS_func, nilS_yield, pickS_bool, ldS_ptr, list_cells, list_ro, partS_none, lenSl_of, lenStr_of, cvInt_of, aminmax_max, aminmax_min, abin_add, abin_sub, abin_mul, abin_eql, abin_neq, abin_lss, abin_leq, abin_gtr, abin_geq, aunary_not, aextract, t5]) (by simp [FT.get_set, FT.setL, faS_ptr, nilS_ptr, nilS_func, nilS_yield, pickS_bool, ldS_ptr, list_cells, list_ro, partS_none, lenSl_of, lenStr_of, cvInt_of, aminmax_max, aminmax_min, abin_add, abin_sub, abin_mul, abin_eql, abin_neq, abin_lss, abin_leq, abin_gtr, abin_geq, aunary_not, aextract, t6]) fun T'' S'' h => h
    · have hlt : ¬ i < R.length := by have := of_decide_eq_false hlt; omega
      rw [List.take_of_length_le (by omega)] at hw5
      simp only [if_true]
      refine m_seq (m_reg ?_)
      rw [reg16_12]
      have hrn : r < S3.n := by have : S1.n = S.n := u3; omega
      have hwr : Av w5 r := hw5.av hrn
      obtain ⟨S5, v1, v2, v3, v4⟩ := st_one (off := 2) (v := w5) hc4.1 (by simp) (SlF.one hw5).1 (SlF.one hw5).2
      simp (decide := true) only [FT.get_set, FT.setL, faS_ptr, nilS_ptr, nilS_func, nilS_yield, pickS_bool, ldS_ptr, list_cells, list_ro, partS_none, lenSl_of, lenStr_of, cvInt_of, aminmax_max, aminmax_min, abin_add, abin_sub, abin_mul, abin_eql, abin_neq, abin_lss, abin_leq, abin_gtr, abin_geq, aunary_not, aextract, Option.some.injEq, Prod.mk.injEq, Value.bool.injEq, exists_eq_left', exists_and_left, and_assoc, decide_eq_true_eq, decide_eq_false_iff_not, if_true, if_false, Nat.zero_add, Nat.add_zero, Option.bind_some, true_and, and_true, forall_const, true_implies, Bool.not_eq_true, Bool.false_eq_true, false_implies, ite_self, Nat.mul_one, t0, t5]
      refine ⟨S5, by simpa using v1, ?_⟩
      have hv5 : SlF tmL 4 S5 S1.n v (isort R) := (hv.keep1 fun y k' hy hyk => f4.2 y (wf2 y k' hyk)).keep1 fun y k' hy _ => v4 y fun e => by subst e; exact hy (hv.av (by have : S1.n = S.n := u3; omega))
      obtain ⟨v', p1, p2⟩ := SlF.pre tm_len (by decide) hv5 (show k ≤ (isort R).length by rw [hkn]; exact due_le _ _)
      refine m_seq (m_reg ?_)
      rw [reg16_13]
      simp (decide := true) only [FT.get_set, FT.setL, faS_ptr, nilS_ptr, nilS_func, nilS_yield, pickS_bool, ldS_ptr, list_cells, list_ro, partS_none, lenSl_of, lenStr_of, cvInt_of, aminmax_max, aminmax_min, abin_add, abin_sub, abin_mul, abin_eql, abin_neq, abin_lss, abin_leq, abin_gtr, abin_geq, aunary_not, aextract, Option.some.injEq, Prod.mk.injEq, Value.bool.injEq, exists_eq_left', exists_and_left, and_assoc, decide_eq_true_eq, decide_eq_false_iff_not, if_true, if_false, Nat.zero_add, Nat.add_zero, Option.bind_some, true_and, and_true, forall_const, true_implies, Bool.not_eq_true, Bool.false_eq_true, false_implies, ite_self, Nat.mul_one, t3, t4, p1]
      refine m_ret ?_
      simp [resM, FT.get_set, FT.setL, faS_ptr, nilS_ptr, nilS_func, nilS_yield, pickS_bool, ldS_ptr, list_cells, list_ro, partS_none, lenSl_of, lenStr_of, cvInt_of, aminmax_max, aminmax_min, abin_add, abin_sub, abin_mul, abin_eql, abin_neq, abin_lss, abin_leq, abin_gtr, abin_geq, aunary_not, aextract, oneOrTuple]
      have hS1 : S1.n = S.n := u3
      have f41 := f4.1
      refine hq v' w5 S5 (by omega) (fun y hy hne => ?_) (fun y hy => hw5.av (by omega)) ⟨v2, (hw5.keep1 fun y k' hy _ => v4 y fun e => by subst e; exact hy hwr).weaken (by omega), hwr⟩ ?_
      · rw [v4 y hne, f4.2 y (by omega), f2.2 y (by omega), u4 y hne]
      · rw [← hkn]; exact p2.weaken (by omega)
  by_cases hlt : k < (isort R).length
  · have e1 : decide ((k : Int) < ((isort R).length : Int)) = true := decide_eq_true (by omega)
    obtain ⟨x, hx⟩ : ∃ x, (isort R)[k]? = some x := ⟨_, List.getElem?_eq_getElem hlt⟩
    obtain ⟨bb, L, q1, q2, q3⟩ := SlF.fld tm_len hv hx
    have q0 : L[k * 4]? = some (.int .i64 x.t) := q3 0 (by decide)
    have hat := due_at (now + 1) _ k x hx hkd
    simp (decide := true) only [FT.get_set, FT.setL, faS_ptr, nilS_ptr, nilS_func, nilS_yield, pickS_bool, ldS_ptr, list_cells, list_ro, partS_none, lenSl_of, lenStr_of, cvInt_of, aminmax_max, aminmax_min, abin_add, abin_sub, abin_mul, abin_eql, abin_neq, abin_lss, abin_leq, abin_gtr, abin_geq, aunary_not, aextract, Option.some.injEq, Prod.mk.injEq, Value.bool.injEq, exists_eq_left', exists_and_left, and_assoc, decide_eq_true_eq, decide_eq_false_iff_not, if_true, if_false, Nat.zero_add, Nat.add_zero, Option.bind_some, true_and, and_true, forall_const, true_implies, Bool.not_eq_true, Bool.false_eq_true, false_implies, ite_self, Nat.mul_one, t0, t3, t4, hv.lenSl, e1, q1, q2, q0, list_of hc2.1, List.getElem?_cons_zero]
    refine m_cond (t := decide (x.t ≤ now + 1)) (by simp [evalT, FT.get_set, FT.setL, faS_ptr, nilS_ptr, nilS_func, nilS_yield, pickS_bool, ldS_ptr, list_cells, list_ro, partS_none, lenSl_of, lenStr_of, cvInt_of, aminmax_max, aminmax_min, abin_add, abin_sub, abin_mul, abin_eql, abin_neq, abin_lss, abin_leq, abin_gtr, abin_geq, aunary_not, aextract]) (fun hle => m_skip ?_) (fun hle => m_exit ?_)
    · have hle := of_decide_eq_true hle
      simp only
      unfold blk16_1
      refine m_block (m_reg ?_)
      rw [reg16_5]
      have hwk : IntKind.i64.wrap ((k : Int) + 1) = ((k + 1 : Nat) : Int) := by rw [wrap_i64 (by omega) (by omega)]; rfl
      simp (decide := true) only [FT.get_set, FT.setL, faS_ptr, nilS_ptr, nilS_func, nilS_yield, pickS_bool, ldS_ptr, list_cells, list_ro, partS_none, lenSl_of, lenStr_of, cvInt_of, aminmax_max, aminmax_min, abin_add, abin_sub, abin_mul, abin_eql, abin_neq, abin_lss, abin_leq, abin_gtr, abin_geq, aunary_not, aextract, Option.some.injEq, Prod.mk.injEq, Value.bool.injEq, exists_eq_left', exists_and_left, and_assoc, decide_eq_true_eq, decide_eq_false_iff_not, if_true, if_false, Nat.zero_add, Nat.add_zero, Option.bind_some, true_and, and_true, forall_const, true_implies, Bool.not_eq_true, Bool.false_eq_true, false_implies, ite_self, Nat.mul_one, t4, hwk]
      exact ⟨m - 1, by omega, k + 1, by omega, hat.2 hle, rfl, by simp [FT.get_set, FT.setL, faS_ptr, nilS_ptr, nilS_func, nilS_yield, pickS_bool, ldS_ptr, list_cells, list_ro, partS_none, lenSl_of, lenStr_of, cvInt_of, aminmax_max, aminmax_min, abin_add, abin_sub, abin_mul, abin_eql, abin_neq, abin_lss, abin_leq, abin_gtr, abin_geq, aunary_not, aextract, t0], by simp [FT.get_set, FT.setL, faS_ptr, nilS_ptr, nilS_func, nilS_yield, pickS_bool, ldS_ptr, list_cells, list_ro, partS_none, lenSl_of, lenStr_of, cvInt_of, aminmax_max, aminmax_min, abin_add, abin_sub, abin_mul, abin_eql, abin_neq, abin_lss, abin_leq, abin_gtr, abin_geq, aunary_not, aextract, t3], by simp [FT.get_set, FT.setL, faS_ptr, nilS_ptr, nilS_func, nilS_yield, pickS_bool, ldS_ptr, list_cells, list_ro, partS_none, lenSl_of, lenStr_of, cvInt_of, aminmax_max, aminmax_min, abin_add, abin_sub, abin_mul, abin_eql, abin_neq, abin_lss, abin_leq, abin_gtr, abin_geq, aunary_not, aextract]⟩
    · have hle := of_decide_eq_false hle
      simp only [if_true]
      refine behind _ (by simp [FT.get_set, FT.setL, faS_ptr, nilS_ptr, nilS_func, nilS_yield, pickS_bool, ldS_ptr, list_cells, list_ro, partS_none, lenSl_of, lenStr_of, cvInt_of, aminmax_max, aminmax_min, abin_add, abin_sub, abin_mul, abin_eql, abin_neq, abin_lss, abin_leq, abin_gtr, abin_geq, aunary_not, aextract, t0]) (by simp [FT.get_set, FT.setL, faS_ptr, nilS_ptr, nilS_func, nilS_yield, pickS_bool, ldS_ptr, list_cells, list_ro, partS_none, lenSl_of, lenStr_of, cvInt_of, aminmax_max, aminmax_min, abin_add, abin_sub, abin_mul, abin_eql, abin_neq, abin_lss, abin_leq, abin_gtr, abin_geq, aunary_not, aextract, t3]) (by simp [FT.get_set, FT.setL, faS_ptr, nilS_ptr, nilS_func, nilS_yield, pickS_bool, ldS_ptr, list_cells, list_ro, partS_none, lenSl_of, lenStr_of, cvInt_of, aminmax_max, aminmax_min, abin_add, abin_sub, abin_mul, abin_eql, abin_neq, abin_lss, abin_leq, abin_gtr, abin_geq, aunary_not, aextract, t4]) ?_
      rcases Nat.lt_or_eq_of_le hkd with h | h
      · exact absurd (hat.1 h) hle
      · exact h
  · have e1 : decide ((k : Int) < ((isort R).length : Int)) = false := decide_eq_false (by omega)
    simp (decide := true) only [FT.get_set, FT.setL, faS_ptr, nilS_ptr, nilS_func, nilS_yield, pickS_bool, ldS_ptr, list_cells, list_ro, partS_none, lenSl_of, lenStr_of, cvInt_of, aminmax_max, aminmax_min, abin_add, abin_sub, abin_mul, abin_eql, abin_neq, abin_lss, abin_leq, abin_gtr, abin_geq, aunary_not, aextract, Option.some.injEq, Prod.mk.injEq, Value.bool.injEq, exists_eq_left', exists_and_left, and_assoc, decide_eq_true_eq, decide_eq_false_iff_not, if_true, if_false, Nat.zero_add, Nat.add_zero, Option.bind_some, true_and, and_true, forall_const, true_implies, Bool.not_eq_true, Bool.false_eq_true, false_implies, ite_self, Nat.mul_one, t0, t3, t4, hv.lenSl, e1]
    refine m_cond (t := false) (by simp [evalT, FT.get_set, FT.setL, faS_ptr, nilS_ptr, nilS_func, nilS_yield, pickS_bool, ldS_ptr, list_cells, list_ro, partS_none, lenSl_of, lenStr_of, cvInt_of, aminmax_max, aminmax_min, abin_add, abin_sub, abin_mul, abin_eql, abin_neq, abin_lss, abin_leq, abin_gtr, abin_geq, aunary_not, aextract]) (fun h => by cases h) (fun _ => m_exit ?_)
    simp only [if_true]
    exact behind _ (by simp [FT.get_set, FT.setL, faS_ptr, nilS_ptr, nilS_func, nilS_yield, pickS_bool, ldS_ptr, list_cells, list_ro, partS_none, lenSl_of, lenStr_of, cvInt_of, aminmax_max, aminmax_min, abin_add, abin_sub, abin_mul, abin_eql, abin_neq, abin_lss, abin_leq, abin_gtr, abin_geq, aunary_not, aextract, t0]) (by simp [FT.get_set, FT.setL, faS_ptr, nilS_ptr, nilS_func, nilS_yield, pickS_bool, ldS_ptr, list_cells, list_ro, partS_none, lenSl_of, lenStr_of, cvInt_of, aminmax_max, aminmax_min, abin_add, abin_sub, abin_mul, abin_eql, abin_neq, abin_lss, abin_leq, abin_gtr, abin_geq, aunary_not, aextract, t3]) (by simp [FT.get_set, FT.setL, faS_ptr, nilS_ptr, nilS_func, nilS_yield, pickS_bool, ldS_ptr, list_cells, list_ro, partS_none, lenSl_of, lenStr_of, cvInt_of, aminmax_max, aminmax_min, abin_add, abin_sub, abin_mul, abin_eql, abin_neq, abin_lss, abin_leq, abin_gtr, abin_geq, aunary_not, aextract, t4]) (by have := due_le (now + 1) (isort R); omega)
end Go.Proofs.Ythkmkfgfabjhnaa

