/-
  The walk through the code of blocks and of what is reached, part F2: what its functions do to memory. Nothing is asked.
-/
import Derived.Test.YtgkdmnfmfcdfmaaSt1
set_option linter.all false
namespace Go.Ag
open Go
theorem wf_fresh' {S : MS} (wf : S.WF) (l : List Value) (es : Nat) : (S.fresh l es).WF := fun x k hk => by
  by_cases e : x = S.n
  · subst e; exact Nat.lt_succ_self _
  · rw [fresh_old _ _ _ e] at hk; exact Nat.lt_succ_of_lt (wf x k hk)
theorem Sl.weaken {S : MS} {B B' : Nat} {v : Value} {l : List Int} (h : Sl S B v l) (hb : B' ≤ B) : Sl S B' v l := by
  cases h with
  | non => exact .non
  | own h1 h2 h3 h4 => exact .own h1 (Nat.le_trans hb h2) h3 h4
theorem Sl.push2 {S : MS} {B : Nat} {v : Value} {l : List Int} (h : Sl S B v l) (wf : S.WF) (hBn : B ≤ S.n) (x : Int) (hsm : l.length < 900000) :
    ∃ v' S', apS false 1 8 [.int .i64 0] (S.fresh [.int .i64 x] 1) [v, .slice (some ⟨S.n, 0, none⟩) 1 1] = some (v', S') ∧ Sl S' B v' (l ++ [x]) ∧ S.n ≤ S'.n ∧ ∀ y, (y < B ∨ ∃ l', S.m y = some (.cells l' 0)) → S'.m y = S.m y := by
  have h1 : Sl (S.fresh [.int .i64 x] 1) B v l := h.keep fun y k hy => fresh_old _ _ _ (Nat.ne_of_lt (wf y k hy))
  obtain ⟨v', S', g1, g2, g3, g4⟩ := h1.app2 (x := .slice (some ⟨S.n, 0, none⟩) 1 1) (new := [x]) (wf_fresh' wf _ _) (Nat.le_succ_of_le hBn) rfl (by show firstCellsM _ 1 1 _ = _; rw [first_of (n := 1) (sz := 1) (list_of (fresh_at _ _ _)) (by decide) (by decide) (by simp)]; rfl) (by simp; omega)
  refine ⟨v', S', g1, g2, Nat.le_trans (Nat.le_succ _) g3, fun y hy => ?_⟩
  have hy' : y ≠ S.n := by
    rcases hy with hy | ⟨l', hy⟩
    · omega
    · exact Nat.ne_of_lt (wf _ _ hy)
  have ho := fresh_old S [.int .i64 x] 1 hy'
  rw [g4 y (by rw [ho]; exact hy), ho]
theorem Sl.push {S : MS} {B : Nat} {v : Value} {l : List Int} (h : Sl S B v l) (wf : S.WF) (hBn : B ≤ S.n) (x : Int) (hsm : l.length < 900000) :
    ∃ v' S', apS false 1 8 [.int .i64 0] (S.fresh [.int .i64 x] 1) [v, .slice (some ⟨S.n, 0, none⟩) 1 1] = some (v', S') ∧ Sl S' B v' (l ++ [x]) ∧ S.n ≤ S'.n ∧ ∀ y, y < B → S'.m y = S.m y := by
  obtain ⟨v', S', h1, h2, h3, h4⟩ := h.push2 wf hBn x hsm
  exact ⟨v', S', h1, h2, h3, fun y hy => h4 y (.inl hy)⟩
end Go.Ag
namespace Go.Proofs.Ytgkdmnfmfcdfmaa
open Go Go.Ag
set_option linter.unusedVariables false
set_option maxRecDepth 100000

def O : Known := fun f args => if f = 7 ∧ args = [] then some (.bool true) else none
theorem O_none {f : FuncId} {args : List Value} (h : f ≠ 7) : O f args = none := by unfold O; rw [if_neg (fun e => h e.1)]

theorem list_keep {S S' : MS} {b : Nat} {l : List Value} (wf : S.WF) (hk : ∀ x, x < S.n → S'.m x = S.m x) (h : S.list b = some l) : S'.list b = some l := by
  unfold MS.list at h ⊢
  cases hm : S.m b with
  | none => rw [hm] at h; cases h
  | some k => rw [hk b (wf _ _ hm)]; exact h
structure Op5 where
  c : Int
  d : Int
  a : Int
  b : Int
  k : Int
def opL (o : Op5) : List Value := [.int .i64 o.c, .int .i64 o.d, .int .i64 o.a, .int .i64 o.b, .int .i64 o.k]
theorem ol0 (o : Op5) : (opL o)[0]? = some (.int .i64 o.c) := rfl
theorem ol4 (o : Op5) : (opL o)[4]? = some (.int .i64 o.k) := rfl

/-- the law's instructions, only read -/
structure Ops (S : MS) (ov : Value) (os : List Op5) : Prop where
  one : ov.cells = #[ov]
  oneC : oneCell ov = true
  len : lenSl ov = some (.int .i64 os.length)
  cells : os ≠ [] → ∃ ab cap l, ov = .slice (some ⟨ab, 0, none⟩) os.length cap ∧ S.list ab = some l ∧ ∀ (k : Nat) x, os[k]? = some x → partS (some 5) l (k * 5) = some (.agg (opL x).toArray)
theorem Ops.keep {S S' : MS} {ov : Value} {os : List Op5} (h : Ops S ov os) (wf : S.WF) (hk : ∀ x, x < S.n → S'.m x = S.m x) : Ops S' ov os :=
  ⟨h.one, h.oneC, h.len, fun hne => by obtain ⟨ab, cap, l, h1, h2, h3⟩ := h.cells hne; exact ⟨ab, cap, l, h1, list_keep wf hk h2, h3⟩⟩
theorem Ops.at {S : MS} {ov : Value} {os : List Op5} (h : Ops S ov os) {i : Nat} {o : Op5} (ho : os[i]? = some o) : ∃ p, iaSS 5 ov (.int .i64 (i : Int)) = some p ∧ ldS (some 5) S p = some (.agg (opL o).toArray) := by
  have hlt := (List.getElem?_eq_some_iff.1 ho).1
  obtain ⟨ab, cap, l, h1, h2, h3⟩ := h.cells (fun e => by rw [e] at ho; cases ho)
  refine ⟨.pointer (some ⟨ab, i * 5, none⟩), ?_, ?_⟩
  · rw [h1, iaSS_of (k := .i64) (i := (i : Int)) (by omega) (by omega : (i : Int) < (os.length : Int)), Int.toNat_natCast, Nat.zero_add]
  · rw [ldS_ptr, h2]
    exact h3 i o ho
def fnV (rr : Int) (ov : Value) : Value := .agg #[.int .i64 rr, ov]
theorem fnV_cells (rr : Int) {ov : Value} (h : ov.cells = #[ov]) : (fnV rr ov).cells.toList = [.int .i64 rr, ov] := by
  unfold fnV; simp [cells_agg, h, cells_int]

theorem in28 {S : MS} (a b : Int) {Q : Value → MS → Prop} (hq : Q (.bool (decide (0 ≤ a ∧ a < b))) S) : CallM Try.prog O 28 [.int .i64 a, .int .i64 b] S Q := by
  refine callM_body (fnIs is28 body28 res28) (O_none (by decide)) (by simp) ?_
  refine m_seq (m_reg ?_)
  rw [reg28_0]
  refine m_seq (m_reg ?_)
  rw [reg28_1]
  simp (decide := true) only [FT.get_set, FT.setL, faS_ptr, nilS_ptr, nilS_func, nilS_yield, pickS_bool, ldS_ptr, list_cells, list_ro, partS_none, lenSl_of, lenStr_of, cvInt_of, aminmax_max, aminmax_min, abin_add, abin_sub, abin_mul, abin_eql, abin_neq, abin_lss, abin_leq, abin_gtr, abin_geq, aunary_not, aextract, Option.some.injEq, Prod.mk.injEq, Value.bool.injEq, exists_eq_left', exists_and_left, and_assoc, decide_eq_true_eq, decide_eq_false_iff_not, if_true, if_false, Nat.zero_add, Nat.add_zero, Option.bind_some, true_and, and_true, forall_const, true_implies, Bool.not_eq_true, Bool.false_eq_true, false_implies, ite_self, Nat.mul_one, ]
  refine ⟨fun h => ?_, fun h => ?_⟩
  · refine m_ret ?_
    simp [resM, FT.get_set, FT.setL, faS_ptr, nilS_ptr, nilS_func, nilS_yield, pickS_bool, ldS_ptr, list_cells, list_ro, partS_none, lenSl_of, lenStr_of, cvInt_of, aminmax_max, aminmax_min, abin_add, abin_sub, abin_mul, abin_eql, abin_neq, abin_lss, abin_leq, abin_gtr, abin_geq, aunary_not, aextract, oneOrTuple, h]
    simpa [h] using hq
  · refine m_ret ?_
    have e : decide (0 ≤ a ∧ a < b) = false := by rw [decide_eq_false_iff_not]; omega
    rw [e] at hq
    simp [resM, FT.get_set, FT.setL, faS_ptr, nilS_ptr, nilS_func, nilS_yield, pickS_bool, ldS_ptr, list_cells, list_ro, partS_none, lenSl_of, lenStr_of, cvInt_of, aminmax_max, aminmax_min, abin_add, abin_sub, abin_mul, abin_eql, abin_neq, abin_lss, abin_leq, abin_gtr, abin_geq, aunary_not, aextract, oneOrTuple, h]
    exact hq

def more (n : Nat) (o : Op5) (i : Nat) : List Int := if o.c ≠ 38 ∧ o.c ≠ 40 ∧ i + 1 < n then [((i + 1 : Nat) : Int)] else []
def goes (o : Op5) : List Int := if o.c = 38 ∨ o.c = 39 then [o.k] else []
def succ (n : Nat) (o : Op5) (i : Nat) : List Int := goes o ++ more n o i

def condPost (S : MS) (B : Nat) (l : List Int) (x : AExit) (T' : FT) (S' : MS) : Prop := x = .normal ∧ Sl S' B (T'.get 5) l ∧ S.n ≤ S'.n ∧ ∀ y, y < B → S'.m y = S.m y

theorem tail30 {S : MS} {B bx sb : Nat} {T : FT} {rr : Int} {ov : Value} {os : List Op5} {o : Op5} {i : Nat} {v : Value} {l : List Int} (ho : Ops S ov os) (hn : os.length ≤ 2500) (hi : i < os.length) (hS : Sl S B v l) (wf : S.WF) (hB : B ≤ S.n) (hl : l.length < 900000) (hbx : S.m bx = some (.cells [.int .i64 rr, ov] 0)) (hsb : S.m sb = some (.cells (opL o) 0))
    (t1 : T.get 1 = .int .i64 i) (t2 : T.get 2 = .pointer (some ⟨bx, 0, none⟩)) (t5 : T.get 5 = v) (t6 : T.get 6 = .pointer (some ⟨sb, 0, none⟩)) :
    MWp Try.prog O 47 (.seq (.region 5 (ro 30 5) false) (.cond (.tmp 40) (.region 6 (ro 30 6) false) .skip)) T S (condPost S B (l ++ more os.length o i)) := by
  have hw : IntKind.i64.wrap ((i : Int) + 1) = ((i + 1 : Nat) : Int) := by rw [wrap_i64 (by omega) (by omega)]; rfl
  have no : more os.length o i = [] → ∀ T, T.get 5 = v → T.get 40 = .bool false → MWp Try.prog O 47 (.cond (.tmp 40) (.region 6 (ro 30 6) false) .skip) T S (condPost S B (l ++ more os.length o i)) := by
    intro hm T t5 t40
    rw [hm, List.append_nil]
    exact m_cond (t := false) t40 (fun h => by cases h) (fun _ => m_skip ⟨rfl, by rw [t5]; exact hS, Nat.le_refl _, fun _ _ => rfl⟩)
  have yes : more os.length o i = [((i + 1 : Nat) : Int)] → ∀ T, T.get 1 = .int .i64 i → T.get 5 = v → T.get 40 = .bool true → MWp Try.prog O 47 (.cond (.tmp 40) (.region 6 (ro 30 6) false) .skip) T S (condPost S B (l ++ more os.length o i)) := by
    intro hm T t1 t5 t40
    rw [hm]
    refine m_cond (t := true) t40 (fun _ => m_reg ?_) (fun h => by cases h)
    rw [reg30_6]
    obtain ⟨v', S', g1, g2, g3, g4⟩ := hS.push wf hB ((i + 1 : Nat) : Int) hl
    simp (decide := true) only [FT.get_set, FT.setL, faS_ptr, nilS_ptr, nilS_func, nilS_yield, pickS_bool, ldS_ptr, list_cells, list_ro, partS_none, lenSl_of, lenStr_of, cvInt_of, aminmax_max, aminmax_min, abin_add, abin_sub, abin_mul, abin_eql, abin_neq, abin_lss, abin_leq, abin_gtr, abin_geq, aunary_not, aextract, Option.some.injEq, Prod.mk.injEq, Value.bool.injEq, exists_eq_left', exists_and_left, and_assoc, decide_eq_true_eq, decide_eq_false_iff_not, if_true, if_false, Nat.zero_add, Nat.add_zero, Option.bind_some, true_and, and_true, forall_const, true_implies, Bool.not_eq_true, Bool.false_eq_true, false_implies, ite_self, Nat.mul_one, t1, t5, hw, bsS_one S 1 [.int .i64 0] (.int .i64 ((i + 1 : Nat) : Int)) rfl rfl, cells_int, g1]
    exact ⟨rfl, by simp [FT.get_set, FT.setL, faS_ptr, nilS_ptr, nilS_func, nilS_yield, pickS_bool, ldS_ptr, list_cells, list_ro, partS_none, lenSl_of, lenStr_of, cvInt_of, aminmax_max, aminmax_min, abin_add, abin_sub, abin_mul, abin_eql, abin_neq, abin_lss, abin_leq, abin_gtr, abin_geq, aunary_not, aextract]; exact g2, g3, g4⟩
  refine m_seq (m_reg ?_)
  rw [reg30_5]
  by_cases h38 : o.c = 38
  · have e38 : (o.c != 38) = false := by simp [h38]
    simp (decide := true) only [FT.get_set, FT.setL, faS_ptr, nilS_ptr, nilS_func, nilS_yield, pickS_bool, ldS_ptr, list_cells, list_ro, partS_none, lenSl_of, lenStr_of, cvInt_of, aminmax_max, aminmax_min, abin_add, abin_sub, abin_mul, abin_eql, abin_neq, abin_lss, abin_leq, abin_gtr, abin_geq, aunary_not, aextract, Option.some.injEq, Prod.mk.injEq, Value.bool.injEq, exists_eq_left', exists_and_left, and_assoc, decide_eq_true_eq, decide_eq_false_iff_not, if_true, if_false, Nat.zero_add, Nat.add_zero, Option.bind_some, true_and, and_true, forall_const, true_implies, Bool.not_eq_true, Bool.false_eq_true, false_implies, ite_self, Nat.mul_one, t1, t2, t5, t6, list_of hbx, list_of hsb, ol0, ho.len, List.getElem?_cons_zero, List.getElem?_cons_succ, hw, e38]
    exact no (by unfold more; rw [if_neg (by simp [h38])]) _ (by simp [FT.get_set, FT.setL, faS_ptr, nilS_ptr, nilS_func, nilS_yield, pickS_bool, ldS_ptr, list_cells, list_ro, partS_none, lenSl_of, lenStr_of, cvInt_of, aminmax_max, aminmax_min, abin_add, abin_sub, abin_mul, abin_eql, abin_neq, abin_lss, abin_leq, abin_gtr, abin_geq, aunary_not, aextract, t5]) (by simp [FT.get_set, FT.setL, faS_ptr, nilS_ptr, nilS_func, nilS_yield, pickS_bool, ldS_ptr, list_cells, list_ro, partS_none, lenSl_of, lenStr_of, cvInt_of, aminmax_max, aminmax_min, abin_add, abin_sub, abin_mul, abin_eql, abin_neq, abin_lss, abin_leq, abin_gtr, abin_geq, aunary_not, aextract])
  have e38 : (o.c != 38) = true := by simp [h38]
  by_cases h40 : o.c = 40
  · have e40 : (o.c != 40) = false := by simp [h40]
    simp (decide := true) only [FT.get_set, FT.setL, faS_ptr, nilS_ptr, nilS_func, nilS_yield, pickS_bool, ldS_ptr, list_cells, list_ro, partS_none, lenSl_of, lenStr_of, cvInt_of, aminmax_max, aminmax_min, abin_add, abin_sub, abin_mul, abin_eql, abin_neq, abin_lss, abin_leq, abin_gtr, abin_geq, aunary_not, aextract, Option.some.injEq, Prod.mk.injEq, Value.bool.injEq, exists_eq_left', exists_and_left, and_assoc, decide_eq_true_eq, decide_eq_false_iff_not, if_true, if_false, Nat.zero_add, Nat.add_zero, Option.bind_some, true_and, and_true, forall_const, true_implies, Bool.not_eq_true, Bool.false_eq_true, false_implies, ite_self, Nat.mul_one, t1, t2, t5, t6, list_of hbx, list_of hsb, ol0, ho.len, List.getElem?_cons_zero, List.getElem?_cons_succ, hw, e38, e40]
    exact no (by unfold more; rw [if_neg (by simp [h40])]) _ (by simp [FT.get_set, FT.setL, faS_ptr, nilS_ptr, nilS_func, nilS_yield, pickS_bool, ldS_ptr, list_cells, list_ro, partS_none, lenSl_of, lenStr_of, cvInt_of, aminmax_max, aminmax_min, abin_add, abin_sub, abin_mul, abin_eql, abin_neq, abin_lss, abin_leq, abin_gtr, abin_geq, aunary_not, aextract, t5]) (by simp [FT.get_set, FT.setL, faS_ptr, nilS_ptr, nilS_func, nilS_yield, pickS_bool, ldS_ptr, list_cells, list_ro, partS_none, lenSl_of, lenStr_of, cvInt_of, aminmax_max, aminmax_min, abin_add, abin_sub, abin_mul, abin_eql, abin_neq, abin_lss, abin_leq, abin_gtr, abin_geq, aunary_not, aextract])
  have e40 : (o.c != 40) = true := by simp [h40]
  simp (decide := true) only [FT.get_set, FT.setL, faS_ptr, nilS_ptr, nilS_func, nilS_yield, pickS_bool, ldS_ptr, list_cells, list_ro, partS_none, lenSl_of, lenStr_of, cvInt_of, aminmax_max, aminmax_min, abin_add, abin_sub, abin_mul, abin_eql, abin_neq, abin_lss, abin_leq, abin_gtr, abin_geq, aunary_not, aextract, Option.some.injEq, Prod.mk.injEq, Value.bool.injEq, exists_eq_left', exists_and_left, and_assoc, decide_eq_true_eq, decide_eq_false_iff_not, if_true, if_false, Nat.zero_add, Nat.add_zero, Option.bind_some, true_and, and_true, forall_const, true_implies, Bool.not_eq_true, Bool.false_eq_true, false_implies, ite_self, Nat.mul_one, t1, t2, t5, t6, list_of hbx, list_of hsb, ol0, ho.len, List.getElem?_cons_zero, List.getElem?_cons_succ, hw, e38, e40]
  by_cases hlt : i + 1 < os.length
  · exact yes (by unfold more; rw [if_pos ⟨h38, h40, hlt⟩]) _ (by simp [FT.get_set, FT.setL, faS_ptr, nilS_ptr, nilS_func, nilS_yield, pickS_bool, ldS_ptr, list_cells, list_ro, partS_none, lenSl_of, lenStr_of, cvInt_of, aminmax_max, aminmax_min, abin_add, abin_sub, abin_mul, abin_eql, abin_neq, abin_lss, abin_leq, abin_gtr, abin_geq, aunary_not, aextract, t1]) (by simp [FT.get_set, FT.setL, faS_ptr, nilS_ptr, nilS_func, nilS_yield, pickS_bool, ldS_ptr, list_cells, list_ro, partS_none, lenSl_of, lenStr_of, cvInt_of, aminmax_max, aminmax_min, abin_add, abin_sub, abin_mul, abin_eql, abin_neq, abin_lss, abin_leq, abin_gtr, abin_geq, aunary_not, aextract, t5]) (by simp [FT.get_set, FT.setL, faS_ptr, nilS_ptr, nilS_func, nilS_yield, pickS_bool, ldS_ptr, list_cells, list_ro, partS_none, lenSl_of, lenStr_of, cvInt_of, aminmax_max, aminmax_min, abin_add, abin_sub, abin_mul, abin_eql, abin_neq, abin_lss, abin_leq, abin_gtr, abin_geq, aunary_not, aextract]; omega)
  · exact no (by unfold more; rw [if_neg (fun h => hlt h.2.2)]) _ (by simp [FT.get_set, FT.setL, faS_ptr, nilS_ptr, nilS_func, nilS_yield, pickS_bool, ldS_ptr, list_cells, list_ro, partS_none, lenSl_of, lenStr_of, cvInt_of, aminmax_max, aminmax_min, abin_add, abin_sub, abin_mul, abin_eql, abin_neq, abin_lss, abin_leq, abin_gtr, abin_geq, aunary_not, aextract, t5]) (by simp [FT.get_set, FT.setL, faS_ptr, nilS_ptr, nilS_func, nilS_yield, pickS_bool, ldS_ptr, list_cells, list_ro, partS_none, lenSl_of, lenStr_of, cvInt_of, aminmax_max, aminmax_min, abin_add, abin_sub, abin_mul, abin_eql, abin_neq, abin_lss, abin_leq, abin_gtr, abin_geq, aunary_not, aextract]; omega)

def P30 (S2 : MS) (i nb : Nat) (o : Op5) (x : AExit) (T' : FT) (S' : MS) : Prop := x = .normal ∧ T'.get 1 = .int .i64 i ∧ T'.get 2 = .pointer (some ⟨nb, 0, none⟩) ∧ T'.get 6 = .pointer (some ⟨nb + 1, 0, none⟩) ∧ Sl S' S2.n (T'.get 5) (goes o) ∧ S2.n ≤ S'.n ∧ ∀ y, y < S2.n → S'.m y = S2.m y

/-- Then -/
theorem then30 {S : MS} {rr : Int} {ov : Value} {os : List Op5} {o : Op5} {i : Nat} (ho : Ops S ov os) (hn : os.length ≤ 2500) (hi : os[i]? = some o) {Q : Value → MS → Prop} (hq : ∀ v S', Sl S' S.n v (succ os.length o i) → S.n ≤ S'.n → (∀ y, y < S.n → S'.m y = S.m y) → Q v S') :
    CallM Try.prog O 30 [fnV rr ov, .int .i64 i] S Q := by
  refine callM_wf fun wf => ?_
  have hlt := (List.getElem?_eq_some_iff.1 hi).1
  refine callM_body (fnIs is30 body30 res30) (O_none (by decide)) (by simp) ?_
  refine m_seq (m_reg ?_)
  rw [reg30_0]
  simp (decide := true) only [FT.get_set, FT.setL, faS_ptr, nilS_ptr, nilS_func, nilS_yield, pickS_bool, ldS_ptr, list_cells, list_ro, partS_none, lenSl_of, lenStr_of, cvInt_of, aminmax_max, aminmax_min, abin_add, abin_sub, abin_mul, abin_eql, abin_neq, abin_lss, abin_leq, abin_gtr, abin_geq, aunary_not, aextract, Option.some.injEq, Prod.mk.injEq, Value.bool.injEq, exists_eq_left', exists_and_left, and_assoc, decide_eq_true_eq, decide_eq_false_iff_not, if_true, if_false, Nat.zero_add, Nat.add_zero, Option.bind_some, true_and, and_true, forall_const, true_implies, Bool.not_eq_true, Bool.false_eq_true, false_implies, ite_self, Nat.mul_one, fnV_cells rr ho.one, ptrTo]
  have wf1 := wf_fresh' wf [.int .i64 rr, ov] 0
  have f1 : ∀ y, y < S.n → (S.fresh [.int .i64 rr, ov] 0).m y = S.m y := fun y hy => fresh_old _ _ _ (Nat.ne_of_lt hy)
  have ho1 := ho.keep wf f1
  have hbx := fresh_at S [.int .i64 rr, ov] 0
  refine m_seq (m_reg ?_)
  rw [reg30_1]
  refine m_seq (m_reg ?_)
  rw [reg30_2]
  obtain ⟨p, hp1, hp2⟩ := ho1.at hi
  simp (decide := true) only [FT.get_set, FT.setL, faS_ptr, nilS_ptr, nilS_func, nilS_yield, pickS_bool, ldS_ptr, list_cells, list_ro, partS_none, lenSl_of, lenStr_of, cvInt_of, aminmax_max, aminmax_min, abin_add, abin_sub, abin_mul, abin_eql, abin_neq, abin_lss, abin_leq, abin_gtr, abin_geq, aunary_not, aextract, Option.some.injEq, Prod.mk.injEq, Value.bool.injEq, exists_eq_left', exists_and_left, and_assoc, decide_eq_true_eq, decide_eq_false_iff_not, if_true, if_false, Nat.zero_add, Nat.add_zero, Option.bind_some, true_and, and_true, forall_const, true_implies, Bool.not_eq_true, Bool.false_eq_true, false_implies, ite_self, Nat.mul_one, list_of hbx, List.getElem?_cons_zero, List.getElem?_cons_succ, hp1, hp2, ptrTo]
  obtain ⟨S2, s1, s2, s3, s4⟩ := st_all (n := 5) (cs := (opL o).toArray) (fresh_at (S.fresh [.int .i64 rr, ov] 0) [.int .i64 0, .int .i64 0, .int .i64 0, .int .i64 0, .int .i64 0] 0) rfl rfl rfl
  have hs2 : S2.m (S.n + 1) = some (.cells (opL o) 0) := s2
  have hn2 : S2.n = S.n + 2 := s3
  refine ⟨S2, s1, ?_⟩
  have f2 : ∀ y, y < S.n + 1 → S2.m y = (S.fresh [.int .i64 rr, ov] 0).m y := fun y hy => by rw [s4 y (by simp only [fresh_n]; omega), fresh_old _ _ _ (by simp only [fresh_n]; omega)]
  refine m_wf fun wf2 => ?_
  have ho2 := ho1.keep wf1 f2
  have hbx2 : S2.m S.n = some (.cells [.int .i64 rr, ov] 0) := (f2 _ (Nat.lt_succ_self _)).trans hbx
  have hnil : Sl S2 S2.n (.slice none 0 0) [] := .non
  have fin : ∀ T, T.get 1 = .int .i64 i → T.get 2 = .pointer (some ⟨S.n, 0, none⟩) → T.get 6 = .pointer (some ⟨S.n + 1, 0, none⟩) → ∀ (S3 : MS) l, S3.WF → Sl S3 S2.n (T.get 5) l → l.length ≤ 1 → S2.n ≤ S3.n → (∀ y, y < S2.n → S3.m y = S2.m y) → l = goes o →
      MWp Try.prog O 47 (.seq (.seq (.region 5 (ro 30 5) false) (.cond (.tmp 40) (.region 6 (ro 30 6) false) .skip)) (.seq (.region 7 (ro 30 7) false) .ret)) T S3 (fun x T' S' => x = .ret ∧ Q (T'.get 4) S') := by
    intro T t1 t2 t6 S3 l wf3 hl hl1 hn3 hf3 hlg
    have ho3 := ho2.keep wf2 hf3
    refine m_seq ((tail30 ho3 hn hlt hl wf3 hn3 (by omega) ((hf3 _ (by omega)).trans hbx2) ((hf3 _ (by omega)).trans hs2) t1 t2 rfl t6).mono ?_)
    rintro _ T4 S4 ⟨rfl, g1, g2, g3⟩
    simp only
    refine m_seq (m_reg ?_)
    rw [reg30_7]
    refine m_ret ⟨rfl, ?_⟩
    simp [FT.get_set, FT.setL, faS_ptr, nilS_ptr, nilS_func, nilS_yield, pickS_bool, ldS_ptr, list_cells, list_ro, partS_none, lenSl_of, lenStr_of, cvInt_of, aminmax_max, aminmax_min, abin_add, abin_sub, abin_mul, abin_eql, abin_neq, abin_lss, abin_leq, abin_gtr, abin_geq, aunary_not, aextract]
    refine hq _ _ ?_ (by omega) fun y hy => by rw [g3 y (by omega), hf3 y (by omega), f2 y (by omega), f1 y hy]
    rw [hlg] at g1
    exact g1.weaken (by omega)
  have skip : ∀ T, T.get 19 = .bool false → T.get 1 = .int .i64 i → T.get 2 = .pointer (some ⟨S.n, 0, none⟩) → T.get 6 = .pointer (some ⟨S.n + 1, 0, none⟩) → T.get 5 = .slice none 0 0 → goes o = [] →
      MWp Try.prog O 47 (.cond (.tmp 19) (.region 4 (ro 30 4) false) .skip) T S2 (P30 S2 i S.n o) := by
    intro T t19 t1 t2 t6 t5 hg
    exact m_cond (t := false) t19 (fun h => by cases h) (fun _ => m_skip ⟨rfl, t1, t2, t6, by rw [t5, hg]; exact .non, Nat.le_refl _, fun _ _ => rfl⟩)
  have take : ∀ T, T.get 19 = .bool true → T.get 1 = .int .i64 i → T.get 2 = .pointer (some ⟨S.n, 0, none⟩) → T.get 6 = .pointer (some ⟨S.n + 1, 0, none⟩) → T.get 5 = .slice none 0 0 → goes o = [o.k] →
      MWp Try.prog O 47 (.cond (.tmp 19) (.region 4 (ro 30 4) false) .skip) T S2 (P30 S2 i S.n o) := by
    intro T t19 t1 t2 t6 t5 hg
    refine m_cond (t := true) t19 (fun _ => m_reg ?_) (fun h => by cases h)
    rw [reg30_4]
    obtain ⟨v', S', g1, g2, g3, g4⟩ := hnil.push wf2 (Nat.le_refl _) o.k (by simp)
    simp (decide := true) only [FT.get_set, FT.setL, faS_ptr, nilS_ptr, nilS_func, nilS_yield, pickS_bool, ldS_ptr, list_cells, list_ro, partS_none, lenSl_of, lenStr_of, cvInt_of, aminmax_max, aminmax_min, abin_add, abin_sub, abin_mul, abin_eql, abin_neq, abin_lss, abin_leq, abin_gtr, abin_geq, aunary_not, aextract, Option.some.injEq, Prod.mk.injEq, Value.bool.injEq, exists_eq_left', exists_and_left, and_assoc, decide_eq_true_eq, decide_eq_false_iff_not, if_true, if_false, Nat.zero_add, Nat.add_zero, Option.bind_some, true_and, and_true, forall_const, true_implies, Bool.not_eq_true, Bool.false_eq_true, false_implies, ite_self, Nat.mul_one, t5, t6, list_of hs2, ol4, bsS_one S2 1 [.int .i64 0] (.int .i64 o.k) rfl rfl, cells_int, g1]
    exact ⟨rfl, by simp [FT.get_set, FT.setL, faS_ptr, nilS_ptr, nilS_func, nilS_yield, pickS_bool, ldS_ptr, list_cells, list_ro, partS_none, lenSl_of, lenStr_of, cvInt_of, aminmax_max, aminmax_min, abin_add, abin_sub, abin_mul, abin_eql, abin_neq, abin_lss, abin_leq, abin_gtr, abin_geq, aunary_not, aextract, t1], by simp [FT.get_set, FT.setL, faS_ptr, nilS_ptr, nilS_func, nilS_yield, pickS_bool, ldS_ptr, list_cells, list_ro, partS_none, lenSl_of, lenStr_of, cvInt_of, aminmax_max, aminmax_min, abin_add, abin_sub, abin_mul, abin_eql, abin_neq, abin_lss, abin_leq, abin_gtr, abin_geq, aunary_not, aextract, t2], by simp [FT.get_set, FT.setL, faS_ptr, nilS_ptr, nilS_func, nilS_yield, pickS_bool, ldS_ptr, list_cells, list_ro, partS_none, lenSl_of, lenStr_of, cvInt_of, aminmax_max, aminmax_min, abin_add, abin_sub, abin_mul, abin_eql, abin_neq, abin_lss, abin_leq, abin_gtr, abin_geq, aunary_not, aextract, t6], by simp [FT.get_set, FT.setL, faS_ptr, nilS_ptr, nilS_func, nilS_yield, pickS_bool, ldS_ptr, list_cells, list_ro, partS_none, lenSl_of, lenStr_of, cvInt_of, aminmax_max, aminmax_min, abin_add, abin_sub, abin_mul, abin_eql, abin_neq, abin_lss, abin_leq, abin_gtr, abin_geq, aunary_not, aextract, hg]; exact g2, g3, g4⟩
  have glen : (goes o).length ≤ 1 := by unfold goes; split <;> simp
  refine m_seq (m_seq (m_reg ?_))
  rw [reg30_3]
  by_cases h38 : o.c = 38
  · have e38 : (o.c == 38) = true := by simp [h38]
    simp (decide := true) only [FT.get_set, FT.setL, faS_ptr, nilS_ptr, nilS_func, nilS_yield, pickS_bool, ldS_ptr, list_cells, list_ro, partS_none, lenSl_of, lenStr_of, cvInt_of, aminmax_max, aminmax_min, abin_add, abin_sub, abin_mul, abin_eql, abin_neq, abin_lss, abin_leq, abin_gtr, abin_geq, aunary_not, aextract, Option.some.injEq, Prod.mk.injEq, Value.bool.injEq, exists_eq_left', exists_and_left, and_assoc, decide_eq_true_eq, decide_eq_false_iff_not, if_true, if_false, Nat.zero_add, Nat.add_zero, Option.bind_some, true_and, and_true, forall_const, true_implies, Bool.not_eq_true, Bool.false_eq_true, false_implies, ite_self, Nat.mul_one, fresh_n, list_of hs2, ol0, e38]
    refine MWp.mono (take _ ?_ ?_ ?_ ?_ ?_ ?_) ?_
    · simp [FT.get_set, FT.setL, faS_ptr, nilS_ptr, nilS_func, nilS_yield, pickS_bool, ldS_ptr, list_cells, list_ro, partS_none, lenSl_of, lenStr_of, cvInt_of, aminmax_max, aminmax_min, abin_add, abin_sub, abin_mul, abin_eql, abin_neq, abin_lss, abin_leq, abin_gtr, abin_geq, aunary_not, aextract]
    · simp [FT.get_set, FT.setL, faS_ptr, nilS_ptr, nilS_func, nilS_yield, pickS_bool, ldS_ptr, list_cells, list_ro, partS_none, lenSl_of, lenStr_of, cvInt_of, aminmax_max, aminmax_min, abin_add, abin_sub, abin_mul, abin_eql, abin_neq, abin_lss, abin_leq, abin_gtr, abin_geq, aunary_not, aextract]
    · simp [FT.get_set, FT.setL, faS_ptr, nilS_ptr, nilS_func, nilS_yield, pickS_bool, ldS_ptr, list_cells, list_ro, partS_none, lenSl_of, lenStr_of, cvInt_of, aminmax_max, aminmax_min, abin_add, abin_sub, abin_mul, abin_eql, abin_neq, abin_lss, abin_leq, abin_gtr, abin_geq, aunary_not, aextract]
    · simp [FT.get_set, FT.setL, faS_ptr, nilS_ptr, nilS_func, nilS_yield, pickS_bool, ldS_ptr, list_cells, list_ro, partS_none, lenSl_of, lenStr_of, cvInt_of, aminmax_max, aminmax_min, abin_add, abin_sub, abin_mul, abin_eql, abin_neq, abin_lss, abin_leq, abin_gtr, abin_geq, aunary_not, aextract, fresh_n]
    · simp [FT.get_set, FT.setL, faS_ptr, nilS_ptr, nilS_func, nilS_yield, pickS_bool, ldS_ptr, list_cells, list_ro, partS_none, lenSl_of, lenStr_of, cvInt_of, aminmax_max, aminmax_min, abin_add, abin_sub, abin_mul, abin_eql, abin_neq, abin_lss, abin_leq, abin_gtr, abin_geq, aunary_not, aextract]
    · unfold goes; first | rw [if_pos (.inl (by assumption))] | rw [if_pos (.inr (by assumption))] | rw [if_neg (by omega)]
    rintro _ T' S' ⟨rfl, a1, a2, a6, a5, b1, b2⟩
    simp only
    refine m_wf fun wf3 => ?_
    refine (fin T' a1 a2 a6 S' _ wf3 a5 glen b1 b2 rfl).mono ?_
    rintro _ T' S' ⟨rfl, h⟩
    simp [resM, oneOrTuple]
    exact h
  have e38 : (o.c == 38) = false := by simp [h38]
  by_cases h39 : o.c = 39
  · have e39 : (o.c == 39) = true := by simp [h39]
    simp (decide := true) only [FT.get_set, FT.setL, faS_ptr, nilS_ptr, nilS_func, nilS_yield, pickS_bool, ldS_ptr, list_cells, list_ro, partS_none, lenSl_of, lenStr_of, cvInt_of, aminmax_max, aminmax_min, abin_add, abin_sub, abin_mul, abin_eql, abin_neq, abin_lss, abin_leq, abin_gtr, abin_geq, aunary_not, aextract, Option.some.injEq, Prod.mk.injEq, Value.bool.injEq, exists_eq_left', exists_and_left, and_assoc, decide_eq_true_eq, decide_eq_false_iff_not, if_true, if_false, Nat.zero_add, Nat.add_zero, Option.bind_some, true_and, and_true, forall_const, true_implies, Bool.not_eq_true, Bool.false_eq_true, false_implies, ite_self, Nat.mul_one, fresh_n, list_of hs2, ol0, e38, e39]
    refine MWp.mono (take _ ?_ ?_ ?_ ?_ ?_ ?_) ?_
    · simp [FT.get_set, FT.setL, faS_ptr, nilS_ptr, nilS_func, nilS_yield, pickS_bool, ldS_ptr, list_cells, list_ro, partS_none, lenSl_of, lenStr_of, cvInt_of, aminmax_max, aminmax_min, abin_add, abin_sub, abin_mul, abin_eql, abin_neq, abin_lss, abin_leq, abin_gtr, abin_geq, aunary_not, aextract]
    · simp [FT.get_set, FT.setL, faS_ptr, nilS_ptr, nilS_func, nilS_yield, pickS_bool, ldS_ptr, list_cells, list_ro, partS_none, lenSl_of, lenStr_of, cvInt_of, aminmax_max, aminmax_min, abin_add, abin_sub, abin_mul, abin_eql, abin_neq, abin_lss, abin_leq, abin_gtr, abin_geq, aunary_not, aextract]
    · simp [FT.get_set, FT.setL, faS_ptr, nilS_ptr, nilS_func, nilS_yield, pickS_bool, ldS_ptr, list_cells, list_ro, partS_none, lenSl_of, lenStr_of, cvInt_of, aminmax_max, aminmax_min, abin_add, abin_sub, abin_mul, abin_eql, abin_neq, abin_lss, abin_leq, abin_gtr, abin_geq, aunary_not, aextract]
    · simp [FT.get_set, FT.setL, faS_ptr, nilS_ptr, nilS_func, nilS_yield, pickS_bool, ldS_ptr, list_cells, list_ro, partS_none, lenSl_of, lenStr_of, cvInt_of, aminmax_max, aminmax_min, abin_add, abin_sub, abin_mul, abin_eql, abin_neq, abin_lss, abin_leq, abin_gtr, abin_geq, aunary_not, aextract, fresh_n]
    · simp [FT.get_set, FT.setL, faS_ptr, nilS_ptr, nilS_func, nilS_yield, pickS_bool, ldS_ptr, list_cells, list_ro, partS_none, lenSl_of, lenStr_of, cvInt_of, aminmax_max, aminmax_min, abin_add, abin_sub, abin_mul, abin_eql, abin_neq, abin_lss, abin_leq, abin_gtr, abin_geq, aunary_not, aextract]
    · unfold goes; first | rw [if_pos (.inl (by assumption))] | rw [if_pos (.inr (by assumption))] | rw [if_neg (by omega)]
    rintro _ T' S' ⟨rfl, a1, a2, a6, a5, b1, b2⟩
    simp only
    refine m_wf fun wf3 => ?_
    refine (fin T' a1 a2 a6 S' _ wf3 a5 glen b1 b2 rfl).mono ?_
    rintro _ T' S' ⟨rfl, h⟩
    simp [resM, oneOrTuple]
    exact h
  · have e39 : (o.c == 39) = false := by simp [h39]
    simp (decide := true) only [FT.get_set, FT.setL, faS_ptr, nilS_ptr, nilS_func, nilS_yield, pickS_bool, ldS_ptr, list_cells, list_ro, partS_none, lenSl_of, lenStr_of, cvInt_of, aminmax_max, aminmax_min, abin_add, abin_sub, abin_mul, abin_eql, abin_neq, abin_lss, abin_leq, abin_gtr, abin_geq, aunary_not, aextract, Option.some.injEq, Prod.mk.injEq, Value.bool.injEq, exists_eq_left', exists_and_left, and_assoc, decide_eq_true_eq, decide_eq_false_iff_not, if_true, if_false, Nat.zero_add, Nat.add_zero, Option.bind_some, true_and, and_true, forall_const, true_implies, Bool.not_eq_true, Bool.false_eq_true, false_implies, ite_self, Nat.mul_one, fresh_n, list_of hs2, ol0, e38, e39]
    refine MWp.mono (skip _ ?_ ?_ ?_ ?_ ?_ ?_) ?_
    · simp [FT.get_set, FT.setL, faS_ptr, nilS_ptr, nilS_func, nilS_yield, pickS_bool, ldS_ptr, list_cells, list_ro, partS_none, lenSl_of, lenStr_of, cvInt_of, aminmax_max, aminmax_min, abin_add, abin_sub, abin_mul, abin_eql, abin_neq, abin_lss, abin_leq, abin_gtr, abin_geq, aunary_not, aextract]
    · simp [FT.get_set, FT.setL, faS_ptr, nilS_ptr, nilS_func, nilS_yield, pickS_bool, ldS_ptr, list_cells, list_ro, partS_none, lenSl_of, lenStr_of, cvInt_of, aminmax_max, aminmax_min, abin_add, abin_sub, abin_mul, abin_eql, abin_neq, abin_lss, abin_leq, abin_gtr, abin_geq, aunary_not, aextract]
    · simp [FT.get_set, FT.setL, faS_ptr, nilS_ptr, nilS_func, nilS_yield, pickS_bool, ldS_ptr, list_cells, list_ro, partS_none, lenSl_of, lenStr_of, cvInt_of, aminmax_max, aminmax_min, abin_add, abin_sub, abin_mul, abin_eql, abin_neq, abin_lss, abin_leq, abin_gtr, abin_geq, aunary_not, aextract]
    · simp [FT.get_set, FT.setL, faS_ptr, nilS_ptr, nilS_func, nilS_yield, pickS_bool, ldS_ptr, list_cells, list_ro, partS_none, lenSl_of, lenStr_of, cvInt_of, aminmax_max, aminmax_min, abin_add, abin_sub, abin_mul, abin_eql, abin_neq, abin_lss, abin_leq, abin_gtr, abin_geq, aunary_not, aextract, fresh_n]
    · simp [FT.get_set, FT.setL, faS_ptr, nilS_ptr, nilS_func, nilS_yield, pickS_bool, ldS_ptr, list_cells, list_ro, partS_none, lenSl_of, lenStr_of, cvInt_of, aminmax_max, aminmax_min, abin_add, abin_sub, abin_mul, abin_eql, abin_neq, abin_lss, abin_leq, abin_gtr, abin_geq, aunary_not, aextract]
    · unfold goes; first | rw [if_pos (.inl (by assumption))] | rw [if_pos (.inr (by assumption))] | rw [if_neg (by omega)]
    rintro _ T' S' ⟨rfl, a1, a2, a6, a5, b1, b2⟩
    simp only
    refine m_wf fun wf3 => ?_
    refine (fin T' a1 a2 a6 S' _ wf3 a5 glen b1 b2 rfl).mono ?_
    rintro _ T' S' ⟨rfl, h⟩
    simp [resM, oneOrTuple]
    exact h
end Go.Proofs.Ytgkdmnfmfcdfmaa

