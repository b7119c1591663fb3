/-
  The walk through both clocks' code: what its functions do to memory, part Pl4. Nothing is asked.
-/
import Derived.Test.YthkmkfgfabjhnaaPl3
set_option linter.all false
namespace Go.Proofs.Ythkmkfgfabjhnaa
open Go Go.Ag
set_option linter.unusedVariables false
set_option maxRecDepth 100000

theorem IsC.keep {S S' : MS} {c B : Nat} {now next : Int} {w : Value} {l : List Tm} (h : IsC S c B now next w l) (wf : S.WF) (hk : ∀ y, y < S.n → S'.m y = S.m y) : IsC S' c B now next w l :=
  ⟨(hk _ (wf _ _ h.1)).trans h.1, h.2.1.keep fun y k hy => hk y (wf y k hy), h.2.2⟩

theorem now10 {S : MS} {c B : Nat} {now next : Int} {w : Value} {l : List Tm} (h : IsC S c B now next w l) {Q : Value → MS → Prop} (hq : Q (.int .i64 now) S) : CallM Try.prog O 10 [.pointer (some ⟨c, 0, none⟩)] S Q := by
  refine callM_body (fnIs is10 body10 res10) (O_none (by decide)) (by simp) ?_
  refine m_seq (m_reg ?_)
  rw [reg10_0]
  refine m_seq (m_reg ?_)
  rw [reg10_1]
  simp (decide := true) only [FT.get_set, FT.setL, faS_ptr, nilS_ptr, nilS_func, nilS_yield, pickS_bool, ldS_ptr, list_cells, list_ro, partS_none, lenSl_of, lenStr_of, cvInt_of, aminmax_max, aminmax_min, abin_add, abin_sub, abin_mul, abin_eql, abin_neq, abin_lss, abin_leq, abin_gtr, abin_geq, aunary_not, aextract, Option.some.injEq, Prod.mk.injEq, Value.bool.injEq, exists_eq_left', exists_and_left, and_assoc, decide_eq_true_eq, decide_eq_false_iff_not, if_true, if_false, Nat.zero_add, Nat.add_zero, Option.bind_some, true_and, and_true, forall_const, true_implies, Bool.not_eq_true, Bool.false_eq_true, false_implies, ite_self, Nat.mul_one, list_of h.1, List.getElem?_cons_zero]
  refine m_ret ?_
  simp [resM, FT.get_set, FT.setL, faS_ptr, nilS_ptr, nilS_func, nilS_yield, pickS_bool, ldS_ptr, list_cells, list_ro, partS_none, lenSl_of, lenStr_of, cvInt_of, aminmax_max, aminmax_min, abin_add, abin_sub, abin_mul, abin_eql, abin_neq, abin_lss, abin_leq, abin_gtr, abin_geq, aunary_not, aextract, oneOrTuple]
  exact hq

/-- a plan: when, what -/
def plL (d : Int) (nm : ByteArray) (aa : Option Addr) (an ac : Nat) : List Value := [.int .i64 d, .string nm, .slice aa an ac]
theorem bd_tm (t n : Int) (nm : ByteArray) (aa : Option Addr) (an ac : Nat) : bdS (fun i => [(0, 1), (1, 1), (2, 2)][i]?) [.int .i64 0, .int .i64 0, .string ⟨⟨[]⟩⟩, .slice none 0 0] [(0, .int .i64 t), (1, .int .i64 n), (2, .agg #[.string nm, .slice aa an ac])] = some (.agg (tmL ⟨t, n, nm, aa, an, ac⟩).toArray) := rfl
theorem bs_tm (S : MS) (a : Tm) : bsS S 1 4 [.int .i64 0, .int .i64 0, .string ⟨⟨[]⟩⟩, .slice none 0 0] [(0, .agg (tmL a).toArray)] = some (.slice (some ⟨S.n, 0, none⟩) 1 1, S.fresh (tmL a) 4) := bsS_one S 4 _ (.agg (tmL a).toArray) rfl rfl
theorem partS_pl (d : Int) (nm : ByteArray) (aa : Option Addr) (an ac : Nat) : partS (some 2) (plL d nm aa an ac) 1 = some (.agg #[.string nm, .slice aa an ac]) := rfl
theorem firstTm (S : MS) (a : Tm) : firstCellsM (S.fresh (tmL a) 4) 4 ([a] : List Tm).length (.slice (some ⟨S.n, 0, none⟩) 1 1) = some (([a] : List Tm).flatMap tmL) := by
  have h1 := fresh_at S (tmL a) 4
  show firstCellsM _ 4 1 _ = _
  rw [first_of (n := 1) (sz := 4) (list_of h1) (by decide) (by decide) (by simp [tm_len])]; rfl

/-- Set, where there is room -/
theorem set8 {S : MS} {c B : Nat} {now next d : Int} {w : Value} {l : List Tm} {nm : ByteArray} {aa : Option Addr} {an ac : Nat} (h : IsC S c B now next w l) (hB : B ≤ S.n) (hd : 1 ≤ d ∧ d ≤ 1000) (hl : l.length < 12) (hn : 0 ≤ now ∧ now ≤ 4611686018427387904) (hx : 0 ≤ next ∧ next ≤ 4611686018427387904)
    {Q : Value → MS → Prop} (hq : ∀ w' S', S.n ≤ S'.n → (∀ y, y < S.n → y ≠ c → Av w y → S'.m y = S.m y) → (∀ y, y < S.n → Av w y → Av w' y) → IsC S' c B now (next + 1) w' (isort (l ++ [⟨now + d, next, nm, aa, an, ac⟩])) → Q (.tuple #[.int .i64 next, .int .i64 0]) S') :
    CallM Try.prog O 8 [.pointer (some ⟨c, 0, none⟩), .agg (plL d nm aa an ac).toArray] S Q := by
  refine callM_wf fun wf => ?_
  have hcn := wf _ _ h.1
  have hcB := h.2.2
  refine callM_body (fnIs is8 body8 res8) (O_none (by decide)) (by simp) ?_
  refine m_seq (m_reg ?_)
  rw [reg8_0]
  have hcells : (Value.cells (.agg (plL d nm aa an ac).toArray)).toList = plL d nm aa an ac := rfl
  simp (decide := true) only [FT.get_set, FT.setL, faS_ptr, nilS_ptr, nilS_func, nilS_yield, pickS_bool, ldS_ptr, list_cells, list_ro, partS_none, lenSl_of, lenStr_of, cvInt_of, aminmax_max, aminmax_min, abin_add, abin_sub, abin_mul, abin_eql, abin_neq, abin_lss, abin_leq, abin_gtr, abin_geq, aunary_not, aextract, Option.some.injEq, Prod.mk.injEq, Value.bool.injEq, exists_eq_left', exists_and_left, and_assoc, decide_eq_true_eq, decide_eq_false_iff_not, if_true, if_false, Nat.zero_add, Nat.add_zero, Option.bind_some, true_and, and_true, forall_const, true_implies, Bool.not_eq_true, Bool.false_eq_true, false_implies, ite_self, Nat.mul_one, hcells, ptrTo]
  have wf1 := wf_fresh' wf (plL d nm aa an ac) 0
  have f1 := old_fresh S (plL d nm aa an ac) 0
  have h1 := h.keep wf f1.2
  have hpb := fresh_at S (plL d nm aa an ac) 0
  have p0 : (plL d nm aa an ac)[0]? = some (.int .i64 d) := rfl
  refine m_seq (m_block (m_seq (m_reg ?_)))
  rw [reg8_1]
  have d1 : decide (d < 1) = false := decide_eq_false (by omega)
  have d2 : decide (d > 1000) = false := decide_eq_false (by omega)
  simp (decide := true) only [FT.get_set, FT.setL, faS_ptr, nilS_ptr, nilS_func, nilS_yield, pickS_bool, ldS_ptr, list_cells, list_ro, partS_none, lenSl_of, lenStr_of, cvInt_of, aminmax_max, aminmax_min, abin_add, abin_sub, abin_mul, abin_eql, abin_neq, abin_lss, abin_leq, abin_gtr, abin_geq, aunary_not, aextract, Option.some.injEq, Prod.mk.injEq, Value.bool.injEq, exists_eq_left', exists_and_left, and_assoc, decide_eq_true_eq, decide_eq_false_iff_not, if_true, if_false, Nat.zero_add, Nat.add_zero, Option.bind_some, true_and, and_true, forall_const, true_implies, Bool.not_eq_true, Bool.false_eq_true, false_implies, ite_self, Nat.mul_one, list_of hpb, p0, d1, d2]
  refine m_cond (t := false) (by simp [evalT, FT.get_set, FT.setL, faS_ptr, nilS_ptr, nilS_func, nilS_yield, pickS_bool, ldS_ptr, list_cells, list_ro, partS_none, lenSl_of, lenStr_of, cvInt_of, aminmax_max, aminmax_min, abin_add, abin_sub, abin_mul, abin_eql, abin_neq, abin_lss, abin_leq, abin_gtr, abin_geq, aunary_not, aextract]) (fun h => by cases h) (fun _ => ?_)
  refine m_seq (m_reg ?_)
  rw [reg8_3]
  have d3 : decide ((l.length : Int) ≥ 12) = false := decide_eq_false (by omega)
  simp (decide := true) only [FT.get_set, FT.setL, faS_ptr, nilS_ptr, nilS_func, nilS_yield, pickS_bool, ldS_ptr, list_cells, list_ro, partS_none, lenSl_of, lenStr_of, cvInt_of, aminmax_max, aminmax_min, abin_add, abin_sub, abin_mul, abin_eql, abin_neq, abin_lss, abin_leq, abin_gtr, abin_geq, aunary_not, aextract, Option.some.injEq, Prod.mk.injEq, Value.bool.injEq, exists_eq_left', exists_and_left, and_assoc, decide_eq_true_eq, decide_eq_false_iff_not, if_true, if_false, Nat.zero_add, Nat.add_zero, Option.bind_some, true_and, and_true, forall_const, true_implies, Bool.not_eq_true, Bool.false_eq_true, false_implies, ite_self, Nat.mul_one, list_of h1.1, List.getElem?_cons_zero, List.getElem?_cons_succ, h1.2.1.lenSl, d3]
  refine m_cond (t := false) (by simp [evalT, FT.get_set, FT.setL, faS_ptr, nilS_ptr, nilS_func, nilS_yield, pickS_bool, ldS_ptr, list_cells, list_ro, partS_none, lenSl_of, lenStr_of, cvInt_of, aminmax_max, aminmax_min, abin_add, abin_sub, abin_mul, abin_eql, abin_neq, abin_lss, abin_leq, abin_gtr, abin_geq, aunary_not, aextract]) (fun h => by cases h) (fun _ => m_skip ?_)
  simp only
  refine m_seq (m_draw ?_)
  rw [reg8_5]
  have hw : IntKind.i64.wrap (now + d) = now + d := wrap_i64 (by omega) (by omega)
  have wf2 := wf_fresh' wf1 (tmL ⟨now + d, next, nm, aa, an, ac⟩) 4
  have f2 := old_fresh (S.fresh (plL d nm aa an ac) 0) (tmL ⟨now + d, next, nm, aa, an, ac⟩) 4
  have h2 := h1.keep wf1 f2.2
  obtain ⟨w', S3, a1, a2, a3, a4, a5⟩ := h2.2.1.app2 (bytes := 56) (z := [.int .i64 0, .int .i64 0, .string ⟨⟨[]⟩⟩, .slice none 0 0]) tm_len tm_one (by decide) (x := .slice (some ⟨(S.fresh (plL d nm aa an ac) 0).n, 0, none⟩) 1 1) (new := [⟨now + d, next, nm, aa, an, ac⟩]) wf2 (by simp only [fresh_n]; omega) rfl (firstTm _ _) (by simp; omega) (by simp; omega)
  have hcw : Av w' c := a5 c (by simp only [fresh_n]; omega) hcB
  have hc3 := (a4 c (by simp only [fresh_n]; omega) hcB).trans h2.1
  obtain ⟨S4, u1, u2, u3, u4⟩ := st_one (off := 2) (v := w') hc3 (by simp) (SlF.one a2).1 (SlF.one a2).2
  simp (decide := true) only [FT.get_set, FT.setL, faS_ptr, nilS_ptr, nilS_func, nilS_yield, pickS_bool, ldS_ptr, list_cells, list_ro, partS_none, lenSl_of, lenStr_of, cvInt_of, aminmax_max, aminmax_min, abin_add, abin_sub, abin_mul, abin_eql, abin_neq, abin_lss, abin_leq, abin_gtr, abin_geq, aunary_not, aextract, Option.some.injEq, Prod.mk.injEq, Value.bool.injEq, exists_eq_left', exists_and_left, and_assoc, decide_eq_true_eq, decide_eq_false_iff_not, if_true, if_false, Nat.zero_add, Nat.add_zero, Option.bind_some, true_and, and_true, forall_const, true_implies, Bool.not_eq_true, Bool.false_eq_true, false_implies, ite_self, Nat.mul_one, list_of h1.1, list_of hpb, p0, partS_pl, List.getElem?_cons_zero, List.getElem?_cons_succ, hw, bd_tm, bs_tm, a1]
  refine ⟨S4, by simpa using u1, ?_⟩
  have hw4 : SlF tmL 4 S4 B w' (l ++ [⟨now + d, next, nm, aa, an, ac⟩]) := a2.keep1 fun y k hy _ => u4 y fun e => by subst e; exact hy hcw
  have hc4 : S4.m c = some (.cells [.int .i64 now, .int .i64 next, w'] 0) := u2
  refine m_seq (m_reg ?_)
  rw [reg8_6]
  simp (decide := true) only [FT.get_set, FT.setL, faS_ptr, nilS_ptr, nilS_func, nilS_yield, pickS_bool, ldS_ptr, list_cells, list_ro, partS_none, lenSl_of, lenStr_of, cvInt_of, aminmax_max, aminmax_min, abin_add, abin_sub, abin_mul, abin_eql, abin_neq, abin_lss, abin_leq, abin_gtr, abin_geq, aunary_not, aextract, Option.some.injEq, Prod.mk.injEq, Value.bool.injEq, exists_eq_left', exists_and_left, and_assoc, decide_eq_true_eq, decide_eq_false_iff_not, if_true, if_false, Nat.zero_add, Nat.add_zero, Option.bind_some, true_and, and_true, forall_const, true_implies, Bool.not_eq_true, Bool.false_eq_true, false_implies, ite_self, Nat.mul_one, list_of hc4, List.getElem?_cons_zero, List.getElem?_cons_succ]
  have hn3 : S.n + 2 ≤ S3.n := by have := a3; simp only [fresh_n] at this; omega
  refine sortSl hw4 (by simp; omega) fun S5 g1 g2 g3 => ?_
  have hc5 := (g2 c (by omega) hcw).trans hc4
  have hwx : IntKind.i64.wrap (next + 1) = next + 1 := wrap_i64 (by omega) (by omega)
  have hwy : IntKind.i64.wrap (next + 1 - 1) = next := by rw [wrap_i64 (by omega) (by omega)]; omega
  obtain ⟨S6, v1, v2, v3, v4⟩ := st_one (off := 1) (v := .int .i64 (next + 1)) hc5 (by simp) rfl rfl
  refine m_seq (m_reg ?_)
  rw [reg8_7]
  simp (decide := true) only [FT.get_set, FT.setL, faS_ptr, nilS_ptr, nilS_func, nilS_yield, pickS_bool, ldS_ptr, list_cells, list_ro, partS_none, lenSl_of, lenStr_of, cvInt_of, aminmax_max, aminmax_min, abin_add, abin_sub, abin_mul, abin_eql, abin_neq, abin_lss, abin_leq, abin_gtr, abin_geq, aunary_not, aextract, Option.some.injEq, Prod.mk.injEq, Value.bool.injEq, exists_eq_left', exists_and_left, and_assoc, decide_eq_true_eq, decide_eq_false_iff_not, if_true, if_false, Nat.zero_add, Nat.add_zero, Option.bind_some, true_and, and_true, forall_const, true_implies, Bool.not_eq_true, Bool.false_eq_true, false_implies, ite_self, Nat.mul_one, list_of hc5, List.getElem?_cons_zero, List.getElem?_cons_succ, hwx]
  refine ⟨S6, by simpa using v1, ?_⟩
  have hc6 : S6.m c = some (.cells [.int .i64 now, .int .i64 (next + 1), w'] 0) := v2
  refine m_seq (m_reg ?_)
  rw [reg8_8]
  simp (decide := true) only [FT.get_set, FT.setL, faS_ptr, nilS_ptr, nilS_func, nilS_yield, pickS_bool, ldS_ptr, list_cells, list_ro, partS_none, lenSl_of, lenStr_of, cvInt_of, aminmax_max, aminmax_min, abin_add, abin_sub, abin_mul, abin_eql, abin_neq, abin_lss, abin_leq, abin_gtr, abin_geq, aunary_not, aextract, Option.some.injEq, Prod.mk.injEq, Value.bool.injEq, exists_eq_left', exists_and_left, and_assoc, decide_eq_true_eq, decide_eq_false_iff_not, if_true, if_false, Nat.zero_add, Nat.add_zero, Option.bind_some, true_and, and_true, forall_const, true_implies, Bool.not_eq_true, Bool.false_eq_true, false_implies, ite_self, Nat.mul_one, list_of hc6, List.getElem?_cons_zero, List.getElem?_cons_succ, hwy]
  refine m_ret ?_
  simp [resM, FT.get_set, FT.setL, faS_ptr, nilS_ptr, nilS_func, nilS_yield, pickS_bool, ldS_ptr, list_cells, list_ro, partS_none, lenSl_of, lenStr_of, cvInt_of, aminmax_max, aminmax_min, abin_add, abin_sub, abin_mul, abin_eql, abin_neq, abin_lss, abin_leq, abin_gtr, abin_geq, aunary_not, aextract, oneOrTuple]
  have hav : ∀ y, y < S.n → Av w y → Av w' y := fun y hy hv => a5 y (by simp only [fresh_n]; omega) hv
  refine hq w' S6 (by omega) (fun y hy hne hv => ?_) hav ⟨hc6, g3.keep1 fun y k hy _ => v4 y fun e => by subst e; exact hy hcw, hcw⟩
  rw [v4 y hne, g2 y (by omega) (hav y hy hv), u4 y hne, a4 y (by simp only [fresh_n]; omega) hv, f2.2 y (by simp only [fresh_n]; omega), f1.2 y hy]

/-! ### due, Collect -/
def dueN (now : Int) (l : List Tm) : Nat := (l.takeWhile fun x => decide (x.t ≤ now)).length
theorem due_le (now : Int) (l : List Tm) : dueN now l ≤ l.length := by
  unfold dueN
  induction l with
  | nil => simp
  | cons x l ih => rw [List.takeWhile_cons]; split <;> simp; omega
theorem due_at (now : Int) : ∀ (l : List Tm) (k : Nat) (x : Tm), l[k]? = some x → k ≤ dueN now l → (k < dueN now l ↔ x.t ≤ now) := by
  intro l
  induction l with
  | nil => intro k x h; cases h
  | cons y l ih =>
    intro k x h hk
    unfold dueN at hk ⊢
    rw [List.takeWhile_cons] at hk ⊢
    by_cases hy : y.t ≤ now
    · rw [if_pos (by simpa using hy)] at hk ⊢
      cases k with
      | zero => cases h; simp [hy]
      | succ k =>
        have := ih k x h (by unfold dueN; simp at hk; exact hk)
        unfold dueN at this
        rw [← this]; simp
    · rw [if_neg (by simpa using hy)] at hk ⊢
      have hk0 : k = 0 := by simpa using hk
      subst hk0
      cases h; simp; omega
def DI (now : Int) (ls : List Tm) (J : Nat → MS → Prop) (l b1 b2 : Nat) (w : Value) (m : Nat) (T : FT) (S : MS) : Prop :=
  ∃ k : Nat, k + m = ls.length ∧ k ≤ dueN now ls ∧ J k S ∧ T.get 0 = .func (.yield l) #[] #[] ∧ T.get 1 = .pointer (some ⟨b1, 0, none⟩) ∧ T.get 2 = .pointer (some ⟨b2, 0, none⟩) ∧ T.get 9 = w ∧ T.get 10 = .int .i64 ls.length ∧ T.get 11 = .int .i64 k

theorem due31 {S : MS} {b1 b2 c B l B0 : Nat} {now now0 next : Int} {w : Value} {ls : List Tm} (hls : ls.length ≤ 100000) (J : Nat → MS → Prop)
    (hJ : ∀ k S, J k S → S.m b1 = some (.cells [.pointer (some ⟨c, 0, none⟩)] 0) ∧ S.m b2 = some (.cells [.int .i64 now] 0) ∧ IsC S c B now0 next w ls)
    (hkeep : ∀ k S S', J k S → S.WF → Old S S' → J k S')
    (step : ∀ k S x, J k S → S.WF → ls[k]? = some x → x.t ≤ now → RoundM Try.prog O l [.agg (tmL x).toArray] S fun v S' => v = .bool true ∧ J (k + 1) S')
    (hs : J 0 S) :
    CallM Try.prog O 31 [.func (.yield l) #[] #[], .pointer (some ⟨b1, 0, none⟩), .pointer (some ⟨b2, 0, none⟩)] S fun _ S' => J (dueN now ls) S' := by
  refine callM_body (fnIs is31 body31 res31) (O_none (by decide)) (by simp) ?_
  obtain ⟨hb1, hb2, hc⟩ := hJ _ _ hs
  refine m_scope (m_seq (m_label ?_))
  simp only
  refine m_seq (m_reg ?_)
  rw [reg31_0]
  simp (decide := true) only [FT.get_set, FT.setL, faS_ptr, nilS_ptr, nilS_func, nilS_yield, pickS_bool, ldS_ptr, list_cells, list_ro, partS_none, lenSl_of, lenStr_of, cvInt_of, aminmax_max, aminmax_min, abin_add, abin_sub, abin_mul, abin_eql, abin_neq, abin_lss, abin_leq, abin_gtr, abin_geq, aunary_not, aextract, Option.some.injEq, Prod.mk.injEq, Value.bool.injEq, exists_eq_left', exists_and_left, and_assoc, decide_eq_true_eq, decide_eq_false_iff_not, if_true, if_false, Nat.zero_add, Nat.add_zero, Option.bind_some, true_and, and_true, forall_const, true_implies, Bool.not_eq_true, Bool.false_eq_true, false_implies, ite_self, Nat.mul_one, list_of hb1, list_of hc.1, List.getElem?_cons_zero, List.getElem?_cons_succ, hc.2.1.lenSl]
  unfold blk31_0
  refine m_block (m_loop (fun m T S' => DI now ls J l b1 b2 w m T S') ls.length ⟨0, by omega, Nat.zero_le _, hs, by simp [FT.get_set, FT.setL, faS_ptr, nilS_ptr, nilS_func, nilS_yield, pickS_bool, ldS_ptr, list_cells, list_ro, partS_none, lenSl_of, lenStr_of, cvInt_of, aminmax_max, aminmax_min, abin_add, abin_sub, abin_mul, abin_eql, abin_neq, abin_lss, abin_leq, abin_gtr, abin_geq, aunary_not, aextract], by simp [FT.get_set, FT.setL, faS_ptr, nilS_ptr, nilS_func, nilS_yield, pickS_bool, ldS_ptr, list_cells, list_ro, partS_none, lenSl_of, lenStr_of, cvInt_of, aminmax_max, aminmax_min, abin_add, abin_sub, abin_mul, abin_eql, abin_neq, abin_lss, abin_leq, abin_gtr, abin_geq, aunary_not, aextract], by simp [FT.get_set, FT.setL, faS_ptr, nilS_ptr, nilS_func, nilS_yield, pickS_bool, ldS_ptr, list_cells, list_ro, partS_none, lenSl_of, lenStr_of, cvInt_of, aminmax_max, aminmax_min, abin_add, abin_sub, abin_mul, abin_eql, abin_neq, abin_lss, abin_leq, abin_gtr, abin_geq, aunary_not, aextract], by simp [FT.get_set, FT.setL, faS_ptr, nilS_ptr, nilS_func, nilS_yield, pickS_bool, ldS_ptr, list_cells, list_ro, partS_none, lenSl_of, lenStr_of, cvInt_of, aminmax_max, aminmax_min, abin_add, abin_sub, abin_mul, abin_eql, abin_neq, abin_lss, abin_leq, abin_gtr, abin_geq, aunary_not, aextract], by simp [FT.get_set, FT.setL, faS_ptr, nilS_ptr, nilS_func, nilS_yield, pickS_bool, ldS_ptr, list_cells, list_ro, partS_none, lenSl_of, lenStr_of, cvInt_of, aminmax_max, aminmax_min, abin_add, abin_sub, abin_mul, abin_eql, abin_neq, abin_lss, abin_leq, abin_gtr, abin_geq, aunary_not, aextract], by simp [FT.get_set, FT.setL, faS_ptr, nilS_ptr, nilS_func, nilS_yield, pickS_bool, ldS_ptr, list_cells, list_ro, partS_none, lenSl_of, lenStr_of, cvInt_of, aminmax_max, aminmax_min, abin_add, abin_sub, abin_mul, abin_eql, abin_neq, abin_lss, abin_leq, abin_gtr, abin_geq, aunary_not, aextract]⟩ ?_)
  clear hs hb1 hb2 hc
  rintro m T S1 ⟨k, hk, hkd, hj, t0, t1, t2, t9, t10, t11⟩
  obtain ⟨hb1, hb2, hc⟩ := hJ _ _ hj
  refine m_wf fun wf1 => m_seq (m_reg ?_)
  rw [reg31_1]
  simp (decide := true) only [FT.get_set, FT.setL, faS_ptr, nilS_ptr, nilS_func, nilS_yield, pickS_bool, ldS_ptr, list_cells, list_ro, partS_none, lenSl_of, lenStr_of, cvInt_of, aminmax_max, aminmax_min, abin_add, abin_sub, abin_mul, abin_eql, abin_neq, abin_lss, abin_leq, abin_gtr, abin_geq, aunary_not, aextract, Option.some.injEq, Prod.mk.injEq, Value.bool.injEq, exists_eq_left', exists_and_left, and_assoc, decide_eq_true_eq, decide_eq_false_iff_not, if_true, if_false, Nat.zero_add, Nat.add_zero, Option.bind_some, true_and, and_true, forall_const, true_implies, Bool.not_eq_true, Bool.false_eq_true, false_implies, ite_self, Nat.mul_one, t10, t11]
  refine m_seq (m_cond (t := decide ((k : Int) < ls.length)) (by simp [evalT, FT.get_set, FT.setL, faS_ptr, nilS_ptr, nilS_func, nilS_yield, pickS_bool, ldS_ptr, list_cells, list_ro, partS_none, lenSl_of, lenStr_of, cvInt_of, aminmax_max, aminmax_min, abin_add, abin_sub, abin_mul, abin_eql, abin_neq, abin_lss, abin_leq, abin_gtr, abin_geq, aunary_not, aextract]) (fun hlt => m_skip ?_) (fun hlt => m_exit ?_))
  · have hlt : k < ls.length := by have := of_decide_eq_true hlt; omega
    simp only
    obtain ⟨x, hx⟩ : ∃ x, ls[k]? = some x := ⟨_, List.getElem?_eq_getElem hlt⟩
    obtain ⟨bb, _, q1, q2⟩ := hc.2.1.at tm_len hx
    unfold blk31_1
    refine m_seq (m_block (m_seq (m_reg ?_)))
    rw [reg31_2]
    obtain ⟨S2, s1, s2, s3, s4⟩ := st_all (n := 4) (cs := (tmL x).toArray) (fresh_at S1 [.int .i64 0, .int .i64 0, .string ⟨⟨[]⟩⟩, .slice none 0 0] 0) rfl rfl rfl
    simp (decide := true) only [FT.get_set, FT.setL, faS_ptr, nilS_ptr, nilS_func, nilS_yield, pickS_bool, ldS_ptr, list_cells, list_ro, partS_none, lenSl_of, lenStr_of, cvInt_of, aminmax_max, aminmax_min, abin_add, abin_sub, abin_mul, abin_eql, abin_neq, abin_lss, abin_leq, abin_gtr, abin_geq, aunary_not, aextract, Option.some.injEq, Prod.mk.injEq, Value.bool.injEq, exists_eq_left', exists_and_left, and_assoc, decide_eq_true_eq, decide_eq_false_iff_not, if_true, if_false, Nat.zero_add, Nat.add_zero, Option.bind_some, true_and, and_true, forall_const, true_implies, Bool.not_eq_true, Bool.false_eq_true, false_implies, ite_self, Nat.mul_one, t9, t11, q1, q2 S1 rfl, ptrTo]
    refine ⟨S2, s1, ?_⟩
    have hs2 : S2.m S1.n = some (.cells (tmL x) 0) := s2
    have f2 : Old S1 S2 := ⟨by rw [s3, fresh_n]; omega, fun y hy => by rw [s4 y (by omega), fresh_old _ _ _ (by omega)]⟩
    have hj2 := hkeep _ _ _ hj wf1 f2
    obtain ⟨hb1', hb2', hc'⟩ := hJ _ _ hj2
    refine m_wf fun wf2 => m_seq (m_reg ?_)
    rw [reg31_3]
    have hat := due_at now ls k x hx hkd
    by_cases hxt : x.t ≤ now
    · have e1 : decide (x.t > now) = false := decide_eq_false (by omega)
      simp (decide := true) only [FT.get_set, FT.setL, faS_ptr, nilS_ptr, nilS_func, nilS_yield, pickS_bool, ldS_ptr, list_cells, list_ro, partS_none, lenSl_of, lenStr_of, cvInt_of, aminmax_max, aminmax_min, abin_add, abin_sub, abin_mul, abin_eql, abin_neq, abin_lss, abin_leq, abin_gtr, abin_geq, aunary_not, aextract, Option.some.injEq, Prod.mk.injEq, Value.bool.injEq, exists_eq_left', exists_and_left, and_assoc, decide_eq_true_eq, decide_eq_false_iff_not, if_true, if_false, Nat.zero_add, Nat.add_zero, Option.bind_some, true_and, and_true, forall_const, true_implies, Bool.not_eq_true, Bool.false_eq_true, false_implies, ite_self, Nat.mul_one, t0, t2, list_of hs2, list_of hb2', tl0, List.getElem?_cons_zero, e1, partS_tm]
      refine CallV.mono (f := .func (.yield l) #[] #[]) (args := [.agg (tmL x).toArray]) (step k S2 x hj2 wf2 hx hxt) ?_
      rintro _ S3 ⟨rfl, hj3⟩
      simp (decide := true) only [FT.get_set, FT.setL, faS_ptr, nilS_ptr, nilS_func, nilS_yield, pickS_bool, ldS_ptr, list_cells, list_ro, partS_none, lenSl_of, lenStr_of, cvInt_of, aminmax_max, aminmax_min, abin_add, abin_sub, abin_mul, abin_eql, abin_neq, abin_lss, abin_leq, abin_gtr, abin_geq, aunary_not, aextract, Option.some.injEq, Prod.mk.injEq, Value.bool.injEq, exists_eq_left', exists_and_left, and_assoc, decide_eq_true_eq, decide_eq_false_iff_not, if_true, if_false, Nat.zero_add, Nat.add_zero, Option.bind_some, true_and, and_true, forall_const, true_implies, Bool.not_eq_true, Bool.false_eq_true, false_implies, ite_self, Nat.mul_one, Bool.not_true]
      refine m_cond (t := false) (by simp [evalT, FT.get_set, FT.setL, faS_ptr, nilS_ptr, nilS_func, nilS_yield, pickS_bool, ldS_ptr, list_cells, list_ro, partS_none, lenSl_of, lenStr_of, cvInt_of, aminmax_max, aminmax_min, abin_add, abin_sub, abin_mul, abin_eql, abin_neq, abin_lss, abin_leq, abin_gtr, abin_geq, aunary_not, aextract]) (fun h => by cases h) (fun _ => m_skip ?_)
      simp only
      refine m_reg ?_
      rw [reg31_4]
      have hwk : IntKind.i64.wrap ((k : Int) + 1) = ((k + 1 : Nat) : Int) := by rw [wrap_i64 (by omega) (by omega)]; rfl
      simp (decide := true) only [FT.get_set, FT.setL, faS_ptr, nilS_ptr, nilS_func, nilS_yield, pickS_bool, ldS_ptr, list_cells, list_ro, partS_none, lenSl_of, lenStr_of, cvInt_of, aminmax_max, aminmax_min, abin_add, abin_sub, abin_mul, abin_eql, abin_neq, abin_lss, abin_leq, abin_gtr, abin_geq, aunary_not, aextract, Option.some.injEq, Prod.mk.injEq, Value.bool.injEq, exists_eq_left', exists_and_left, and_assoc, decide_eq_true_eq, decide_eq_false_iff_not, if_true, if_false, Nat.zero_add, Nat.add_zero, Option.bind_some, true_and, and_true, forall_const, true_implies, Bool.not_eq_true, Bool.false_eq_true, false_implies, ite_self, Nat.mul_one, t11, hwk]
      exact ⟨m - 1, by omega, k + 1, by omega, hat.2 hxt, hj3, by simp [FT.get_set, FT.setL, faS_ptr, nilS_ptr, nilS_func, nilS_yield, pickS_bool, ldS_ptr, list_cells, list_ro, partS_none, lenSl_of, lenStr_of, cvInt_of, aminmax_max, aminmax_min, abin_add, abin_sub, abin_mul, abin_eql, abin_neq, abin_lss, abin_leq, abin_gtr, abin_geq, aunary_not, aextract, t0], by simp [FT.get_set, FT.setL, faS_ptr, nilS_ptr, nilS_func, nilS_yield, pickS_bool, ldS_ptr, list_cells, list_ro, partS_none, lenSl_of, lenStr_of, cvInt_of, aminmax_max, aminmax_min, abin_add, abin_sub, abin_mul, abin_eql, abin_neq, abin_lss, abin_leq, abin_gtr, abin_geq, aunary_not, aextract, t1], by simp [FT.get_set, FT.setL, faS_ptr, nilS_ptr, nilS_func, nilS_yield, pickS_bool, ldS_ptr, list_cells, list_ro, partS_none, lenSl_of, lenStr_of, cvInt_of, aminmax_max, aminmax_min, abin_add, abin_sub, abin_mul, abin_eql, abin_neq, abin_lss, abin_leq, abin_gtr, abin_geq, aunary_not, aextract, t2], by simp [FT.get_set, FT.setL, faS_ptr, nilS_ptr, nilS_func, nilS_yield, pickS_bool, ldS_ptr, list_cells, list_ro, partS_none, lenSl_of, lenStr_of, cvInt_of, aminmax_max, aminmax_min, abin_add, abin_sub, abin_mul, abin_eql, abin_neq, abin_lss, abin_leq, abin_gtr, abin_geq, aunary_not, aextract, t9], by simp [FT.get_set, FT.setL, faS_ptr, nilS_ptr, nilS_func, nilS_yield, pickS_bool, ldS_ptr, list_cells, list_ro, partS_none, lenSl_of, lenStr_of, cvInt_of, aminmax_max, aminmax_min, abin_add, abin_sub, abin_mul, abin_eql, abin_neq, abin_lss, abin_leq, abin_gtr, abin_geq, aunary_not, aextract, t10], by simp [FT.get_set, FT.setL, faS_ptr, nilS_ptr, nilS_func, nilS_yield, pickS_bool, ldS_ptr, list_cells, list_ro, partS_none, lenSl_of, lenStr_of, cvInt_of, aminmax_max, aminmax_min, abin_add, abin_sub, abin_mul, abin_eql, abin_neq, abin_lss, abin_leq, abin_gtr, abin_geq, aunary_not, aextract]⟩
    · have e1 : decide (x.t > now) = true := decide_eq_true (by omega)
      simp (decide := true) only [FT.get_set, FT.setL, faS_ptr, nilS_ptr, nilS_func, nilS_yield, pickS_bool, ldS_ptr, list_cells, list_ro, partS_none, lenSl_of, lenStr_of, cvInt_of, aminmax_max, aminmax_min, abin_add, abin_sub, abin_mul, abin_eql, abin_neq, abin_lss, abin_leq, abin_gtr, abin_geq, aunary_not, aextract, Option.some.injEq, Prod.mk.injEq, Value.bool.injEq, exists_eq_left', exists_and_left, and_assoc, decide_eq_true_eq, decide_eq_false_iff_not, if_true, if_false, Nat.zero_add, Nat.add_zero, Option.bind_some, true_and, and_true, forall_const, true_implies, Bool.not_eq_true, Bool.false_eq_true, false_implies, ite_self, Nat.mul_one, t0, t2, list_of hs2, list_of hb2', tl0, List.getElem?_cons_zero, e1, partS_tm]
      refine m_cond (t := true) (by simp [evalT, FT.get_set, FT.setL, faS_ptr, nilS_ptr, nilS_func, nilS_yield, pickS_bool, ldS_ptr, list_cells, list_ro, partS_none, lenSl_of, lenStr_of, cvInt_of, aminmax_max, aminmax_min, abin_add, abin_sub, abin_mul, abin_eql, abin_neq, abin_lss, abin_leq, abin_gtr, abin_geq, aunary_not, aextract]) (fun _ => m_exit ?_) (fun h => by cases h)
      have hkn : k = dueN now ls := by
        rcases Nat.lt_or_eq_of_le hkd with h | h
        · exact absurd (hat.1 h) hxt
        · exact h
      simp [resM, oneOrTuple]
      rw [← hkn]; exact hj2
  · have hlt : ¬ k < ls.length := by have := of_decide_eq_false hlt; omega
    have hkn : k = dueN now ls := by have := due_le now ls; omega
    simp [resM, oneOrTuple]
    rw [← hkn]; exact hj

def JA (S0 : MS) (ls : List Tm) (sb lb : Nat) (T : FT) (k : Nat) (S : MS) : Prop :=
  S.m lb = some (.loop ⟨.ready, none, ⟨T, 13⟩, [7], (.region 2 (ro 30 2) false), blk30_1⟩) ∧ (∃ v, S.m sb = some (.cells [v] 0) ∧ SlF tmL 4 S (lb + 1) v (ls.take k)) ∧ lb + 1 ≤ S.n ∧ ∀ x, x < S0.n → S.m x = S0.m x

end Go.Proofs.Ythkmkfgfabjhnaa

