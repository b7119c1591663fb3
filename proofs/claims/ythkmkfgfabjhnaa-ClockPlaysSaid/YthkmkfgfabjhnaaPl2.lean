/-
  The walk through both clocks' code: what its functions do to memory, part Pl2. Nothing is asked.
-/
import Derived.Test.YthkmkfgfabjhnaaPl1
set_option linter.all false
namespace Go.Proofs.Ythkmkfgfabjhnaa
open Go Go.Ag
set_option linter.unusedVariables false
set_option maxRecDepth 100000

def insRev (x : Tm) : List Tm → List Tm
  | [] => [x]
  | y :: ys => if lt x y then y :: insRev x ys else x :: y :: ys
def insR (p : List Tm) (x : Tm) : List Tm := (insRev x p.reverse).reverse
theorem insR_nil (x : Tm) : insR [] x = [x] := rfl
theorem insR_snoc (p : List Tm) (y x : Tm) : insR (p ++ [y]) x = if lt x y then insR p x ++ [y] else p ++ [y] ++ [x] := by
  unfold insR
  rw [List.reverse_append]
  have e : insRev x (y :: p.reverse) = if lt x y then y :: insRev x p.reverse else x :: y :: p.reverse := rfl
  show (insRev x (y :: p.reverse)).reverse = _
  rw [e]
  split <;> simp
theorem insR_len (p : List Tm) (x : Tm) : (insR p x).length = p.length + 1 := by
  unfold insR
  have : ∀ q, (insRev x q).length = q.length + 1 := by
    intro q
    induction q with
    | nil => rfl
    | cons y q ih => unfold insRev; split <;> simp [ih]
  simp [this]
theorem insR_mem (p : List Tm) (x z : Tm) : z ∈ insR p x ↔ z = x ∨ z ∈ p := by
  unfold insR
  have : ∀ q, z ∈ insRev x q ↔ z = x ∨ z ∈ q := by
    intro q
    induction q with
    | nil => simp [insRev]
    | cons y q ih =>
      unfold insRev
      split
      · simp [ih]
        constructor
        · rintro (h | h | h)
          · exact .inr (.inl h)
          · exact .inl h
          · exact .inr (.inr h)
        · rintro (h | h | h)
          · exact .inr (.inl h)
          · exact .inl h
          · exact .inr (.inr h)
      · simp
  rw [List.mem_reverse, this, List.mem_reverse]
theorem insR_mid (mid : List Tm) : ∀ (pre : List Tm) (x : Tm), (∀ y ∈ mid, lt x y) → insR (pre ++ mid) x = insR pre x ++ mid := by
  have main : ∀ (q : List Tm) (pre : List Tm) (x : Tm), (∀ y ∈ q, lt x y) → insR (pre ++ q.reverse) x = insR pre x ++ q.reverse := by
    intro q
    induction q with
    | nil => intro pre x _; simp
    | cons y q ih =>
      intro pre x h
      rw [List.reverse_cons, ← List.append_assoc, insR_snoc, if_pos (h y (by simp)), ih pre x (fun z hz => h z (by simp [hz])), List.append_assoc]
  intro pre x h
  have := main mid.reverse pre x (fun y hy => h y (by simpa using hy))
  rwa [List.reverse_reverse] at this
def isort (l : List Tm) : List Tm := l.foldl insR []
theorem isort_snoc (l : List Tm) (x : Tm) : isort (l ++ [x]) = insR (isort l) x := by unfold isort; rw [List.foldl_append]; rfl
theorem isort_len (l : List Tm) : (isort l).length = l.length := by
  have : ∀ (l acc : List Tm), (l.foldl insR acc).length = acc.length + l.length := by
    intro l
    induction l with
    | nil => intro acc; simp
    | cons x l ih => intro acc; rw [List.foldl_cons, ih, insR_len]; simp; omega
  unfold isort; rw [this]; simp
theorem take_succ_of {l : List Tm} {i : Nat} {x : Tm} (h : l[i]? = some x) : l.take (i + 1) = l.take i ++ [x] := by rw [List.take_add_one, h]; rfl

structure SC (S0 : MS) (b n cap : Nat) (T : FT) (S : MS) : Prop where
  nn : S0.n ≤ S.n
  old : ∀ y, y < S0.n → y ≠ b → S.m y = S0.m y
  t0 : T.get 0 = .slice (some ⟨b, 0, none⟩) n cap
  t1 : T.get 1 = .int .i64 0
  t2 : T.get 2 = .int .i64 n
  t3 : T.get 3 = .func (.func 21) #[] #[]

def SI (S0 : MS) (b cap es : Nat) (l junk : List Tm) (i : Nat) (x : Tm) (m : Nat) (T : FT) (S : MS) : Prop :=
  ∃ pre mid : List Tm, isort (l.take i) = pre ++ mid ∧ pre.length = m ∧ (∀ y ∈ mid, lt x y) ∧ S.m b = some (.cells ((pre ++ x :: mid ++ l.drop (i + 1) ++ junk).flatMap tmL) es) ∧ SC S0 b l.length cap T S ∧ T.get 8 = .int .i64 i ∧ T.get 9 = .int .i64 m

theorem get_mid {pre : List Tm} {x : Tm} {r : List Tm} : (pre ++ x :: r)[pre.length]? = some x := by simp

theorem inner34 {S0 S : MS} {b cap es i : Nat} {l junk : List Tm} {x : Tm} {T : FT} (hl : l.length ≤ 100000) (hi : i < l.length) (hb0 : b < S0.n) (hs : SI S0 b cap es l junk i x i T S) :
    MWp Try.prog O 53 (.block 2 (.loop (.seq (.seq (.region 4 (ro 34 4) true) (.cond (.tmp 34) .skip (.exit 2))) (.seq (.block 3 (.region 6 (ro 34 6) true)) (.region 5 (ro 34 5) false))))) T S
      (fun y T' S' => y = .normal ∧ SC S0 b l.length cap T' S' ∧ T'.get 8 = .int .i64 i ∧ S'.m b = some (.cells ((insR (isort (l.take i)) x ++ l.drop (i + 1) ++ junk).flatMap tmL) es)) := by
  refine m_block (m_loop (fun m T S' => SI S0 b cap es l junk i x m T S') _ hs ?_)
  clear hs
  rintro m T S1 ⟨pre, mid, hpm, hpl, hlt, hb, hc, t8, t9⟩
  have hlen : pre.length + mid.length = i := by
    have := congrArg List.length hpm
    rw [isort_len, List.length_take, List.length_append] at this
    omega
  refine m_seq (m_seq (m_draw ?_))
  rw [reg34_4]
  have done : ∀ (T' : FT) (S' : MS), insR pre x = pre ++ [x] → SC S0 b l.length cap T' S' → T'.get 8 = .int .i64 i → S'.m b = S1.m b → T'.get 34 = .bool false → ∀ (Q : AExit → FT → MS → Prop), (∀ T', SC S0 b l.length cap T' S' ∧ T'.get 8 = .int .i64 i ∧ S'.m b = some (.cells ((insR (isort (l.take i)) x ++ l.drop (i + 1) ++ junk).flatMap tmL) es) → Q (.exit 2) T' S') → MWp Try.prog O 53 (.cond (.tmp 34) .skip (.exit 2)) T' S' Q := by
    intro T' S' hin hc' g8 hbb g34 Q hq
    refine m_cond (t := false) g34 (fun h => by cases h) (fun _ => m_exit (hq _ ⟨hc', g8, ?_⟩))
    rw [hbb, hb, hpm, insR_mid mid pre x hlt, hin]
    simp
  by_cases h0 : m = 0
  · subst h0
    have hpre : pre = [] := List.length_eq_zero_iff.1 hpl
    have e0 : decide (((0 : Nat) : Int) > 0) = false := by decide
    simp (decide := true) only [FT.get_set, FT.setL, faS_ptr, nilS_ptr, nilS_func, nilS_yield, pickS_bool, ldS_ptr, list_cells, list_ro, partS_none, lenSl_of, lenStr_of, cvInt_of, aminmax_max, aminmax_min, abin_add, abin_sub, abin_mul, abin_eql, abin_neq, abin_lss, abin_leq, abin_gtr, abin_geq, aunary_not, aextract, Option.some.injEq, Prod.mk.injEq, Value.bool.injEq, exists_eq_left', exists_and_left, and_assoc, decide_eq_true_eq, decide_eq_false_iff_not, if_true, if_false, Nat.zero_add, Nat.add_zero, Option.bind_some, true_and, and_true, forall_const, true_implies, Bool.not_eq_true, Bool.false_eq_true, false_implies, ite_self, Nat.mul_one, hc.t1, t9, e0]
    refine done _ _ (by rw [hpre]; rfl) ⟨hc.nn, hc.old, by simp [FT.get_set, FT.setL, faS_ptr, nilS_ptr, nilS_func, nilS_yield, pickS_bool, ldS_ptr, list_cells, list_ro, partS_none, lenSl_of, lenStr_of, cvInt_of, aminmax_max, aminmax_min, abin_add, abin_sub, abin_mul, abin_eql, abin_neq, abin_lss, abin_leq, abin_gtr, abin_geq, aunary_not, aextract, hc.t0], by simp [FT.get_set, FT.setL, faS_ptr, nilS_ptr, nilS_func, nilS_yield, pickS_bool, ldS_ptr, list_cells, list_ro, partS_none, lenSl_of, lenStr_of, cvInt_of, aminmax_max, aminmax_min, abin_add, abin_sub, abin_mul, abin_eql, abin_neq, abin_lss, abin_leq, abin_gtr, abin_geq, aunary_not, aextract, hc.t1], by simp [FT.get_set, FT.setL, faS_ptr, nilS_ptr, nilS_func, nilS_yield, pickS_bool, ldS_ptr, list_cells, list_ro, partS_none, lenSl_of, lenStr_of, cvInt_of, aminmax_max, aminmax_min, abin_add, abin_sub, abin_mul, abin_eql, abin_neq, abin_lss, abin_leq, abin_gtr, abin_geq, aunary_not, aextract, hc.t2], by simp [FT.get_set, FT.setL, faS_ptr, nilS_ptr, nilS_func, nilS_yield, pickS_bool, ldS_ptr, list_cells, list_ro, partS_none, lenSl_of, lenStr_of, cvInt_of, aminmax_max, aminmax_min, abin_add, abin_sub, abin_mul, abin_eql, abin_neq, abin_lss, abin_leq, abin_gtr, abin_geq, aunary_not, aextract, hc.t3]⟩ (by simp [FT.get_set, FT.setL, faS_ptr, nilS_ptr, nilS_func, nilS_yield, pickS_bool, ldS_ptr, list_cells, list_ro, partS_none, lenSl_of, lenStr_of, cvInt_of, aminmax_max, aminmax_min, abin_add, abin_sub, abin_mul, abin_eql, abin_neq, abin_lss, abin_leq, abin_gtr, abin_geq, aunary_not, aextract, t8]) rfl (by simp [FT.get_set, FT.setL, faS_ptr, nilS_ptr, nilS_func, nilS_yield, pickS_bool, ldS_ptr, list_cells, list_ro, partS_none, lenSl_of, lenStr_of, cvInt_of, aminmax_max, aminmax_min, abin_add, abin_sub, abin_mul, abin_eql, abin_neq, abin_lss, abin_leq, abin_gtr, abin_geq, aunary_not, aextract]) _ fun T' h => ?_
    simp only [if_true]
    first | exact h | exact ⟨trivial, h⟩
  · obtain ⟨pre', y, rfl⟩ : ∃ pre' y, pre = pre' ++ [y] := by
      have hne : pre ≠ [] := fun e => h0 (by rw [← hpl, e]; rfl)
      exact ⟨pre.dropLast, pre.getLast hne, (List.dropLast_concat_getLast hne).symm⟩
    have hm : m = pre'.length + 1 := by rw [← hpl]; simp
    have e0 : decide ((m : Int) > 0) = true := decide_eq_true (by omega)
    have hL : (pre' ++ [y]) ++ x :: mid ++ l.drop (i + 1) ++ junk = (pre' ++ [y]) ++ x :: (mid ++ l.drop (i + 1) ++ junk) := by simp
    have hL2 : (pre' ++ [y]) ++ x :: mid ++ l.drop (i + 1) ++ junk = pre' ++ y :: (x :: mid ++ l.drop (i + 1) ++ junk) := by simp
    have hgx : ((pre' ++ [y]) ++ x :: mid ++ l.drop (i + 1) ++ junk)[m]? = some x := by rw [hL, hm]; have := get_mid (pre := pre' ++ [y]) (x := x) (r := mid ++ l.drop (i + 1) ++ junk); simpa using this
    have hgy : ((pre' ++ [y]) ++ x :: mid ++ l.drop (i + 1) ++ junk)[m - 1]? = some y := by rw [hL2, hm]; exact get_mid
    have hwm : IntKind.i64.wrap ((m : Int) - 1) = ((m - 1 : Nat) : Int) := by rw [wrap_i64 (by omega) (by omega)]; omega
    have hmi : m ≤ i := by omega
    have ia1 : iaSS 4 (.slice (some ⟨b, 0, none⟩) l.length cap) (.int .i64 (m : Int)) = some (.pointer (some ⟨b, m * 4, none⟩)) := by rw [iaSS_of (k := .i64) (i := (m : Int)) (by omega) (by omega : (m : Int) < (l.length : Int)), Int.toNat_natCast, Nat.zero_add]
    have ia2 : iaSS 4 (.slice (some ⟨b, 0, none⟩) l.length cap) (.int .i64 ((m - 1 : Nat) : Int)) = some (.pointer (some ⟨b, (m - 1) * 4, none⟩)) := by rw [iaSS_of (k := .i64) (i := ((m - 1 : Nat) : Int)) (by omega) (by omega : ((m - 1 : Nat) : Int) < (l.length : Int)), Int.toNat_natCast, Nat.zero_add]
    have ldx := fm_load tm_len hb hgx
    have ldy := fm_load tm_len hb hgy
    simp (decide := true) only [FT.get_set, FT.setL, faS_ptr, nilS_ptr, nilS_func, nilS_yield, pickS_bool, ldS_ptr, list_cells, list_ro, partS_none, lenSl_of, lenStr_of, cvInt_of, aminmax_max, aminmax_min, abin_add, abin_sub, abin_mul, abin_eql, abin_neq, abin_lss, abin_leq, abin_gtr, abin_geq, aunary_not, aextract, Option.some.injEq, Prod.mk.injEq, Value.bool.injEq, exists_eq_left', exists_and_left, and_assoc, decide_eq_true_eq, decide_eq_false_iff_not, if_true, if_false, Nat.zero_add, Nat.add_zero, Option.bind_some, true_and, and_true, forall_const, true_implies, Bool.not_eq_true, Bool.false_eq_true, false_implies, ite_self, Nat.mul_one, hc.t0, hc.t1, hc.t3, t9, e0, ia1, ldx, hwm, ia2, ldy]
    show CallM Try.prog O 21 [.agg (tmL x).toArray, .agg (tmL y).toArray] S1 _
    refine order21 x y fun S2 f2 => ?_
    have hbn : b < S1.n := by have := hc.nn; omega
    have hb2 := (f2.2 b hbn).trans hb
    have hc2 : ∀ T', T'.get 0 = T.get 0 → T'.get 1 = T.get 1 → T'.get 2 = T.get 2 → T'.get 3 = T.get 3 → SC S0 b l.length cap T' S2 := fun T' e0 e1 e2 e3 => ⟨by have := hc.nn; have := f2.1; omega, fun z hz hzb => by rw [f2.2 z (by have := hc.nn; omega)]; exact hc.old z hz hzb, e0.trans hc.t0, e1.trans hc.t1, e2.trans hc.t2, e3.trans hc.t3⟩
    by_cases hxy : lt x y
    · have e1 : decide (ordV x y < 0) = true := decide_eq_true ((ord_lt x y).2 hxy)
      simp (decide := true) only [FT.get_set, FT.setL, faS_ptr, nilS_ptr, nilS_func, nilS_yield, pickS_bool, ldS_ptr, list_cells, list_ro, partS_none, lenSl_of, lenStr_of, cvInt_of, aminmax_max, aminmax_min, abin_add, abin_sub, abin_mul, abin_eql, abin_neq, abin_lss, abin_leq, abin_gtr, abin_geq, aunary_not, aextract, Option.some.injEq, Prod.mk.injEq, Value.bool.injEq, exists_eq_left', exists_and_left, and_assoc, decide_eq_true_eq, decide_eq_false_iff_not, if_true, if_false, Nat.zero_add, Nat.add_zero, Option.bind_some, true_and, and_true, forall_const, true_implies, Bool.not_eq_true, Bool.false_eq_true, false_implies, ite_self, Nat.mul_one, e1]
      refine m_cond (t := true) (by simp [evalT, FT.get_set, FT.setL, faS_ptr, nilS_ptr, nilS_func, nilS_yield, pickS_bool, ldS_ptr, list_cells, list_ro, partS_none, lenSl_of, lenStr_of, cvInt_of, aminmax_max, aminmax_min, abin_add, abin_sub, abin_mul, abin_eql, abin_neq, abin_lss, abin_leq, abin_gtr, abin_geq, aunary_not, aextract]) (fun _ => m_skip ?_) (fun h => by cases h)
      simp only
      have ldx2 := fm_load tm_len hb2 hgx
      have ldy2 := fm_load tm_len hb2 hgy
      refine m_seq (m_block (m_draw ?_))
      rw [reg34_6]
      have hlen2 : m < ((pre' ++ [y]) ++ x :: mid ++ l.drop (i + 1) ++ junk).length := (List.getElem?_eq_some_iff.1 hgx).1
      obtain ⟨S3, a1, a2, a3, a4⟩ := fm_store (x := y) tm_len tm_one hb2 hlen2
      obtain ⟨S4, b1, b2, b3, b4⟩ := fm_store (i := m - 1) (x := x) tm_len tm_one a2 (by rw [List.length_set]; omega)
      simp (decide := true) only [FT.get_set, FT.setL, faS_ptr, nilS_ptr, nilS_func, nilS_yield, pickS_bool, ldS_ptr, list_cells, list_ro, partS_none, lenSl_of, lenStr_of, cvInt_of, aminmax_max, aminmax_min, abin_add, abin_sub, abin_mul, abin_eql, abin_neq, abin_lss, abin_leq, abin_gtr, abin_geq, aunary_not, aextract, Option.some.injEq, Prod.mk.injEq, Value.bool.injEq, exists_eq_left', exists_and_left, and_assoc, decide_eq_true_eq, decide_eq_false_iff_not, if_true, if_false, Nat.zero_add, Nat.add_zero, Option.bind_some, true_and, and_true, forall_const, true_implies, Bool.not_eq_true, Bool.false_eq_true, false_implies, ite_self, Nat.mul_one, hc.t0, t9, hwm, ia1, ia2, ldx2, ldy2, a1, b1]
      refine m_reg ?_
      rw [reg34_5]
      simp (decide := true) only [FT.get_set, FT.setL, faS_ptr, nilS_ptr, nilS_func, nilS_yield, pickS_bool, ldS_ptr, list_cells, list_ro, partS_none, lenSl_of, lenStr_of, cvInt_of, aminmax_max, aminmax_min, abin_add, abin_sub, abin_mul, abin_eql, abin_neq, abin_lss, abin_leq, abin_gtr, abin_geq, aunary_not, aextract, Option.some.injEq, Prod.mk.injEq, Value.bool.injEq, exists_eq_left', exists_and_left, and_assoc, decide_eq_true_eq, decide_eq_false_iff_not, if_true, if_false, Nat.zero_add, Nat.add_zero, Option.bind_some, true_and, and_true, forall_const, true_implies, Bool.not_eq_true, Bool.false_eq_true, false_implies, ite_self, Nat.mul_one, t9, hwm]
      refine ⟨m - 1, by omega, pre', y :: mid, by rw [hpm]; simp, by omega, ?_, ?_, ⟨by have := hc.nn; have := f2.1; omega, fun z hz hzb => by rw [b4 z hzb, a4 z hzb, f2.2 z (by have := hc.nn; omega)]; exact hc.old z hz hzb, by simp [FT.get_set, FT.setL, faS_ptr, nilS_ptr, nilS_func, nilS_yield, pickS_bool, ldS_ptr, list_cells, list_ro, partS_none, lenSl_of, lenStr_of, cvInt_of, aminmax_max, aminmax_min, abin_add, abin_sub, abin_mul, abin_eql, abin_neq, abin_lss, abin_leq, abin_gtr, abin_geq, aunary_not, aextract, hc.t0], by simp [FT.get_set, FT.setL, faS_ptr, nilS_ptr, nilS_func, nilS_yield, pickS_bool, ldS_ptr, list_cells, list_ro, partS_none, lenSl_of, lenStr_of, cvInt_of, aminmax_max, aminmax_min, abin_add, abin_sub, abin_mul, abin_eql, abin_neq, abin_lss, abin_leq, abin_gtr, abin_geq, aunary_not, aextract, hc.t1], by simp [FT.get_set, FT.setL, faS_ptr, nilS_ptr, nilS_func, nilS_yield, pickS_bool, ldS_ptr, list_cells, list_ro, partS_none, lenSl_of, lenStr_of, cvInt_of, aminmax_max, aminmax_min, abin_add, abin_sub, abin_mul, abin_eql, abin_neq, abin_lss, abin_leq, abin_gtr, abin_geq, aunary_not, aextract, hc.t2], by simp [FT.get_set, FT.setL, faS_ptr, nilS_ptr, nilS_func, nilS_yield, pickS_bool, ldS_ptr, list_cells, list_ro, partS_none, lenSl_of, lenStr_of, cvInt_of, aminmax_max, aminmax_min, abin_add, abin_sub, abin_mul, abin_eql, abin_neq, abin_lss, abin_leq, abin_gtr, abin_geq, aunary_not, aextract, hc.t3]⟩, by simp [FT.get_set, FT.setL, faS_ptr, nilS_ptr, nilS_func, nilS_yield, pickS_bool, ldS_ptr, list_cells, list_ro, partS_none, lenSl_of, lenStr_of, cvInt_of, aminmax_max, aminmax_min, abin_add, abin_sub, abin_mul, abin_eql, abin_neq, abin_lss, abin_leq, abin_gtr, abin_geq, aunary_not, aextract, t8], by simp [FT.get_set, FT.setL, faS_ptr, nilS_ptr, nilS_func, nilS_yield, pickS_bool, ldS_ptr, list_cells, list_ro, partS_none, lenSl_of, lenStr_of, cvInt_of, aminmax_max, aminmax_min, abin_add, abin_sub, abin_mul, abin_eql, abin_neq, abin_lss, abin_leq, abin_gtr, abin_geq, aunary_not, aextract]⟩
      · intro z hz
        rcases List.mem_cons.1 hz with rfl | hz
        · exact hxy
        · exact hlt z hz
      · rw [b2, hm]
        congr 3
        simp
    · have e1 : decide (ordV x y < 0) = false := decide_eq_false (fun h => hxy ((ord_lt x y).1 h))
      simp (decide := true) only [FT.get_set, FT.setL, faS_ptr, nilS_ptr, nilS_func, nilS_yield, pickS_bool, ldS_ptr, list_cells, list_ro, partS_none, lenSl_of, lenStr_of, cvInt_of, aminmax_max, aminmax_min, abin_add, abin_sub, abin_mul, abin_eql, abin_neq, abin_lss, abin_leq, abin_gtr, abin_geq, aunary_not, aextract, Option.some.injEq, Prod.mk.injEq, Value.bool.injEq, exists_eq_left', exists_and_left, and_assoc, decide_eq_true_eq, decide_eq_false_iff_not, if_true, if_false, Nat.zero_add, Nat.add_zero, Option.bind_some, true_and, and_true, forall_const, true_implies, Bool.not_eq_true, Bool.false_eq_true, false_implies, ite_self, Nat.mul_one, e1]
      refine done _ _ (by rw [insR_snoc, if_neg hxy]) (hc2 _ ?_ ?_ ?_ ?_) (by simp [FT.get_set, FT.setL, faS_ptr, nilS_ptr, nilS_func, nilS_yield, pickS_bool, ldS_ptr, list_cells, list_ro, partS_none, lenSl_of, lenStr_of, cvInt_of, aminmax_max, aminmax_min, abin_add, abin_sub, abin_mul, abin_eql, abin_neq, abin_lss, abin_leq, abin_gtr, abin_geq, aunary_not, aextract, t8]) (f2.2 b hbn) (by simp [FT.get_set, FT.setL, faS_ptr, nilS_ptr, nilS_func, nilS_yield, pickS_bool, ldS_ptr, list_cells, list_ro, partS_none, lenSl_of, lenStr_of, cvInt_of, aminmax_max, aminmax_min, abin_add, abin_sub, abin_mul, abin_eql, abin_neq, abin_lss, abin_leq, abin_gtr, abin_geq, aunary_not, aextract]) _ fun T' h => ?_
      · simp [FT.get_set, FT.setL, faS_ptr, nilS_ptr, nilS_func, nilS_yield, pickS_bool, ldS_ptr, list_cells, list_ro, partS_none, lenSl_of, lenStr_of, cvInt_of, aminmax_max, aminmax_min, abin_add, abin_sub, abin_mul, abin_eql, abin_neq, abin_lss, abin_leq, abin_gtr, abin_geq, aunary_not, aextract]
      · simp [FT.get_set, FT.setL, faS_ptr, nilS_ptr, nilS_func, nilS_yield, pickS_bool, ldS_ptr, list_cells, list_ro, partS_none, lenSl_of, lenStr_of, cvInt_of, aminmax_max, aminmax_min, abin_add, abin_sub, abin_mul, abin_eql, abin_neq, abin_lss, abin_leq, abin_gtr, abin_geq, aunary_not, aextract]
      · simp [FT.get_set, FT.setL, faS_ptr, nilS_ptr, nilS_func, nilS_yield, pickS_bool, ldS_ptr, list_cells, list_ro, partS_none, lenSl_of, lenStr_of, cvInt_of, aminmax_max, aminmax_min, abin_add, abin_sub, abin_mul, abin_eql, abin_neq, abin_lss, abin_leq, abin_gtr, abin_geq, aunary_not, aextract]
      · simp [FT.get_set, FT.setL, faS_ptr, nilS_ptr, nilS_func, nilS_yield, pickS_bool, ldS_ptr, list_cells, list_ro, partS_none, lenSl_of, lenStr_of, cvInt_of, aminmax_max, aminmax_min, abin_add, abin_sub, abin_mul, abin_eql, abin_neq, abin_lss, abin_leq, abin_gtr, abin_geq, aunary_not, aextract]
      simp only [if_true]
      first | exact h | exact ⟨trivial, h⟩

def SO (S0 : MS) (b cap es : Nat) (l junk : List Tm) (m : Nat) (T : FT) (S : MS) : Prop :=
  ∃ i : Nat, i + m = l.length + 1 ∧ 1 ≤ i ∧ S.m b = some (.cells ((isort (l.take i) ++ l.drop i ++ junk).flatMap tmL) es) ∧ SC S0 b l.length cap T S ∧ T.get 8 = .int .i64 i

theorem sort34 {S : MS} {b cap es : Nat} {l junk : List Tm} (hb : S.m b = some (.cells ((l ++ junk).flatMap tmL) es)) (hl : l.length ≤ 100000) {Q : Value → MS → Prop} (hq : ∀ S', S.n ≤ S'.n → (∀ y, y < S.n → y ≠ b → S'.m y = S.m y) → S'.m b = some (.cells ((isort l ++ junk).flatMap tmL) es) → Q (.tuple #[]) S') :
    CallM Try.prog O 34 [.slice (some ⟨b, 0, none⟩) l.length cap, .int .i64 0, .int .i64 l.length, .func (.func 21) #[] #[]] S Q := by
  refine callM_wf fun wf => ?_
  have hbn := wf _ _ hb
  refine callM_body (fnIs is34 body34 res34) (O_none (by decide)) (by simp) ?_
  refine m_seq (m_reg ?_)
  rw [reg34_0]
  have hw1 : IntKind.i64.wrap ((0 : Int) + 1) = 1 := by decide
  simp (decide := true) only [FT.get_set, FT.setL, faS_ptr, nilS_ptr, nilS_func, nilS_yield, pickS_bool, ldS_ptr, list_cells, list_ro, partS_none, lenSl_of, lenStr_of, cvInt_of, aminmax_max, aminmax_min, abin_add, abin_sub, abin_mul, abin_eql, abin_neq, abin_lss, abin_leq, abin_gtr, abin_geq, aunary_not, aextract, Option.some.injEq, Prod.mk.injEq, Value.bool.injEq, exists_eq_left', exists_and_left, and_assoc, decide_eq_true_eq, decide_eq_false_iff_not, if_true, if_false, Nat.zero_add, Nat.add_zero, Option.bind_some, true_and, and_true, forall_const, true_implies, Bool.not_eq_true, Bool.false_eq_true, false_implies, ite_self, Nat.mul_one, hw1]
  unfold blk34_0
  refine m_block (m_loop (fun m T S' => SO S b cap es l junk m T S') l.length ⟨1, by omega, Nat.le_refl _, ?_, ⟨Nat.le_refl _, fun _ _ _ => rfl, by simp [FT.get_set, FT.setL, faS_ptr, nilS_ptr, nilS_func, nilS_yield, pickS_bool, ldS_ptr, list_cells, list_ro, partS_none, lenSl_of, lenStr_of, cvInt_of, aminmax_max, aminmax_min, abin_add, abin_sub, abin_mul, abin_eql, abin_neq, abin_lss, abin_leq, abin_gtr, abin_geq, aunary_not, aextract], by simp [FT.get_set, FT.setL, faS_ptr, nilS_ptr, nilS_func, nilS_yield, pickS_bool, ldS_ptr, list_cells, list_ro, partS_none, lenSl_of, lenStr_of, cvInt_of, aminmax_max, aminmax_min, abin_add, abin_sub, abin_mul, abin_eql, abin_neq, abin_lss, abin_leq, abin_gtr, abin_geq, aunary_not, aextract], by simp [FT.get_set, FT.setL, faS_ptr, nilS_ptr, nilS_func, nilS_yield, pickS_bool, ldS_ptr, list_cells, list_ro, partS_none, lenSl_of, lenStr_of, cvInt_of, aminmax_max, aminmax_min, abin_add, abin_sub, abin_mul, abin_eql, abin_neq, abin_lss, abin_leq, abin_gtr, abin_geq, aunary_not, aextract], by simp [FT.get_set, FT.setL, faS_ptr, nilS_ptr, nilS_func, nilS_yield, pickS_bool, ldS_ptr, list_cells, list_ro, partS_none, lenSl_of, lenStr_of, cvInt_of, aminmax_max, aminmax_min, abin_add, abin_sub, abin_mul, abin_eql, abin_neq, abin_lss, abin_leq, abin_gtr, abin_geq, aunary_not, aextract]⟩, by simp [FT.get_set, FT.setL, faS_ptr, nilS_ptr, nilS_func, nilS_yield, pickS_bool, ldS_ptr, list_cells, list_ro, partS_none, lenSl_of, lenStr_of, cvInt_of, aminmax_max, aminmax_min, abin_add, abin_sub, abin_mul, abin_eql, abin_neq, abin_lss, abin_leq, abin_gtr, abin_geq, aunary_not, aextract]⟩ ?_)
  · rw [hb]
    cases l with
    | nil => rfl
    | cons x l => rfl
  rintro m T S1 ⟨i, him, hi1, hb1, hc, t8⟩
  refine m_seq (m_seq (m_reg ?_))
  rw [reg34_1]
  simp (decide := true) only [FT.get_set, FT.setL, faS_ptr, nilS_ptr, nilS_func, nilS_yield, pickS_bool, ldS_ptr, list_cells, list_ro, partS_none, lenSl_of, lenStr_of, cvInt_of, aminmax_max, aminmax_min, abin_add, abin_sub, abin_mul, abin_eql, abin_neq, abin_lss, abin_leq, abin_gtr, abin_geq, aunary_not, aextract, Option.some.injEq, Prod.mk.injEq, Value.bool.injEq, exists_eq_left', exists_and_left, and_assoc, decide_eq_true_eq, decide_eq_false_iff_not, if_true, if_false, Nat.zero_add, Nat.add_zero, Option.bind_some, true_and, and_true, forall_const, true_implies, Bool.not_eq_true, Bool.false_eq_true, false_implies, ite_self, Nat.mul_one, hc.t2, t8]
  refine m_cond (t := decide ((i : Int) < l.length)) (by simp [evalT, FT.get_set, FT.setL, faS_ptr, nilS_ptr, nilS_func, nilS_yield, pickS_bool, ldS_ptr, list_cells, list_ro, partS_none, lenSl_of, lenStr_of, cvInt_of, aminmax_max, aminmax_min, abin_add, abin_sub, abin_mul, abin_eql, abin_neq, abin_lss, abin_leq, abin_gtr, abin_geq, aunary_not, aextract]) (fun hlt => m_skip ?_) (fun hlt => m_exit ?_)
  · have hlt : i < l.length := by have := of_decide_eq_true hlt; omega
    simp only
    obtain ⟨x, hx⟩ : ∃ x, l[i]? = some x := ⟨_, List.getElem?_eq_getElem hlt⟩
    have hdrop : l.drop i = x :: l.drop (i + 1) := by
      rw [List.drop_eq_getElem_cons hlt]; congr 1
      have := List.getElem?_eq_getElem hlt
      rw [hx] at this; exact (Option.some.inj this).symm
    refine m_seq (m_block (m_seq (m_reg ?_)))
    rw [reg34_3]
    refine MWp.mono (inner34 (S0 := S) (b := b) (cap := cap) (es := es) (junk := junk) (x := x) hl hlt hbn ⟨isort (l.take i), [], by simp, by rw [isort_len, List.length_take]; omega, (fun y hy => by cases hy), ?_, ⟨hc.nn, hc.old, by simp [FT.get_set, FT.setL, faS_ptr, nilS_ptr, nilS_func, nilS_yield, pickS_bool, ldS_ptr, list_cells, list_ro, partS_none, lenSl_of, lenStr_of, cvInt_of, aminmax_max, aminmax_min, abin_add, abin_sub, abin_mul, abin_eql, abin_neq, abin_lss, abin_leq, abin_gtr, abin_geq, aunary_not, aextract, hc.t0], by simp [FT.get_set, FT.setL, faS_ptr, nilS_ptr, nilS_func, nilS_yield, pickS_bool, ldS_ptr, list_cells, list_ro, partS_none, lenSl_of, lenStr_of, cvInt_of, aminmax_max, aminmax_min, abin_add, abin_sub, abin_mul, abin_eql, abin_neq, abin_lss, abin_leq, abin_gtr, abin_geq, aunary_not, aextract, hc.t1], by simp [FT.get_set, FT.setL, faS_ptr, nilS_ptr, nilS_func, nilS_yield, pickS_bool, ldS_ptr, list_cells, list_ro, partS_none, lenSl_of, lenStr_of, cvInt_of, aminmax_max, aminmax_min, abin_add, abin_sub, abin_mul, abin_eql, abin_neq, abin_lss, abin_leq, abin_gtr, abin_geq, aunary_not, aextract, hc.t2], by simp [FT.get_set, FT.setL, faS_ptr, nilS_ptr, nilS_func, nilS_yield, pickS_bool, ldS_ptr, list_cells, list_ro, partS_none, lenSl_of, lenStr_of, cvInt_of, aminmax_max, aminmax_min, abin_add, abin_sub, abin_mul, abin_eql, abin_neq, abin_lss, abin_leq, abin_gtr, abin_geq, aunary_not, aextract, hc.t3]⟩, by simp [FT.get_set, FT.setL, faS_ptr, nilS_ptr, nilS_func, nilS_yield, pickS_bool, ldS_ptr, list_cells, list_ro, partS_none, lenSl_of, lenStr_of, cvInt_of, aminmax_max, aminmax_min, abin_add, abin_sub, abin_mul, abin_eql, abin_neq, abin_lss, abin_leq, abin_gtr, abin_geq, aunary_not, aextract, t8], by simp [FT.get_set, FT.setL, faS_ptr, nilS_ptr, nilS_func, nilS_yield, pickS_bool, ldS_ptr, list_cells, list_ro, partS_none, lenSl_of, lenStr_of, cvInt_of, aminmax_max, aminmax_min, abin_add, abin_sub, abin_mul, abin_eql, abin_neq, abin_lss, abin_leq, abin_gtr, abin_geq, aunary_not, aextract, t8]⟩) ?_
    · rw [hb1, hdrop]; simp
    rintro _ T2 S2 ⟨rfl, hc2, t8', hb2⟩
    simp only
    refine m_reg ?_
    rw [reg34_2]
    have hwi : IntKind.i64.wrap ((i : Int) + 1) = ((i + 1 : Nat) : Int) := by rw [wrap_i64 (by omega) (by omega)]; rfl
    simp (decide := true) only [FT.get_set, FT.setL, faS_ptr, nilS_ptr, nilS_func, nilS_yield, pickS_bool, ldS_ptr, list_cells, list_ro, partS_none, lenSl_of, lenStr_of, cvInt_of, aminmax_max, aminmax_min, abin_add, abin_sub, abin_mul, abin_eql, abin_neq, abin_lss, abin_leq, abin_gtr, abin_geq, aunary_not, aextract, Option.some.injEq, Prod.mk.injEq, Value.bool.injEq, exists_eq_left', exists_and_left, and_assoc, decide_eq_true_eq, decide_eq_false_iff_not, if_true, if_false, Nat.zero_add, Nat.add_zero, Option.bind_some, true_and, and_true, forall_const, true_implies, Bool.not_eq_true, Bool.false_eq_true, false_implies, ite_self, Nat.mul_one, t8', hwi]
    refine ⟨m - 1, by omega, i + 1, by omega, by omega, ?_, ⟨hc2.nn, hc2.old, by simp [FT.get_set, FT.setL, faS_ptr, nilS_ptr, nilS_func, nilS_yield, pickS_bool, ldS_ptr, list_cells, list_ro, partS_none, lenSl_of, lenStr_of, cvInt_of, aminmax_max, aminmax_min, abin_add, abin_sub, abin_mul, abin_eql, abin_neq, abin_lss, abin_leq, abin_gtr, abin_geq, aunary_not, aextract, hc2.t0], by simp [FT.get_set, FT.setL, faS_ptr, nilS_ptr, nilS_func, nilS_yield, pickS_bool, ldS_ptr, list_cells, list_ro, partS_none, lenSl_of, lenStr_of, cvInt_of, aminmax_max, aminmax_min, abin_add, abin_sub, abin_mul, abin_eql, abin_neq, abin_lss, abin_leq, abin_gtr, abin_geq, aunary_not, aextract, hc2.t1], by simp [FT.get_set, FT.setL, faS_ptr, nilS_ptr, nilS_func, nilS_yield, pickS_bool, ldS_ptr, list_cells, list_ro, partS_none, lenSl_of, lenStr_of, cvInt_of, aminmax_max, aminmax_min, abin_add, abin_sub, abin_mul, abin_eql, abin_neq, abin_lss, abin_leq, abin_gtr, abin_geq, aunary_not, aextract, hc2.t2], by simp [FT.get_set, FT.setL, faS_ptr, nilS_ptr, nilS_func, nilS_yield, pickS_bool, ldS_ptr, list_cells, list_ro, partS_none, lenSl_of, lenStr_of, cvInt_of, aminmax_max, aminmax_min, abin_add, abin_sub, abin_mul, abin_eql, abin_neq, abin_lss, abin_leq, abin_gtr, abin_geq, aunary_not, aextract, hc2.t3]⟩, by simp [FT.get_set, FT.setL, faS_ptr, nilS_ptr, nilS_func, nilS_yield, pickS_bool, ldS_ptr, list_cells, list_ro, partS_none, lenSl_of, lenStr_of, cvInt_of, aminmax_max, aminmax_min, abin_add, abin_sub, abin_mul, abin_eql, abin_neq, abin_lss, abin_leq, abin_gtr, abin_geq, aunary_not, aextract]⟩
    rw [hb2, take_succ_of hx, isort_snoc]
  · have hlt : ¬ i < l.length := by have := of_decide_eq_false hlt; omega
    simp only [if_true]
    simp only [resM, oneOrTuple]
    refine ⟨[], rfl, hq _ hc.nn hc.old ?_⟩
    rw [hb1, List.take_of_length_le (by omega), List.drop_of_length_le (by omega)]; simp
end Go.Proofs.Ythkmkfgfabjhnaa

