/-
  The walk through the clock's code: what its functions do to memory, part On8. Nothing is asked.
-/
import Derived.Test.YthkmkfgfabjhnaaOn7
set_option linter.all false
namespace Go.Proofs.Ythkmkfgfabjhnaa
open Go Go.Ag
set_option linter.unusedVariables false
set_option maxRecDepth 100000

def TI3 (S0 : MS) (ds : List Nat) (dv : Value) (ticks : Int) (c cb : Nat) (m : Nat) (T : FT) (S : MS) : Prop :=
  ∃ (t : Int) (w : Value) (l : List Tm) (came : List Int), 1 ≤ t ∧ t + m = ticks + 1 ∧ TC S0 ds dv ticks c cb t w l came T S ∧ Came ds came (fun _ d => (d : Int) + 1 < t) ∧ T.get 10 = .int .i64 t

theorem ticks3 {S0 S : MS} {ds : List Nat} {dv : Value} {ticks : Int} {c cb : Nat} {T : FT} (hb : By S0 dv ds) (wf0 : S0.WF) (hn : ds.length ≤ 12) (ht : 0 ≤ ticks ∧ ticks ≤ 300) (hs : TI3 S0 ds dv ticks c cb ticks.toNat T S) :
    MWp Try.prog O 156 (.block 2 (.loop (.seq (.seq (.region 14 (ro 3 14) false) (.cond (.tmp 62) .skip (.exit 2))) (.seq (.block 3 (.seq (.region 16 (ro 3 16) false) (.seq (.region 17 (ro 3 17) false) (.block 4 (.loop (.seq (.seq (.region 18 (ro 3 18) false) (.cond (.tmp 70) .skip (.exit 4))) (.seq (.block 5 (.seq (.region 20 (ro 3 20) false) (.seq (.seq (.region 21 (ro 3 21) true) (.cond (.tmp 124) (.seq (.region 22 (ro 3 22) false) .ret) .skip)) (.region 23 (ro 3 23) false)))) (.region 19 (ro 3 19) false)))))))) (.region 15 (ro 3 15) false))))) T S
      (fun x T' S' => x = .normal ∧ ∃ (w : Value) (l : List Tm) (came : List Int), TC S0 ds dv ticks c cb (ticks + 1) w l came T' S' ∧ Came ds came (fun _ d => (d : Int) + 1 < ticks + 1)) := by
  refine m_block (m_loop (fun m T S' => TI3 S0 ds dv ticks c cb m T S') _ hs ?_)
  clear hs
  rintro m T S1 ⟨t, w, l, came, h1, hm, hc, hcm, t10⟩
  have q1 := hc.c0
  have q2 := hc.ccb
  have q3 := hc.cbn
  have q4 := hc.old.1
  refine m_seq (m_seq (m_reg ?_))
  rw [reg3_14]
  simp (decide := true) only [FT.get_set, FT.setL, faS_ptr, nilS_ptr, nilS_func, nilS_yield, pickS_bool, ldS_ptr, list_cells, list_ro, partS_none, lenSl_of, lenStr_of, cvInt_of, aminmax_max, aminmax_min, abin_add, abin_sub, abin_mul, abin_eql, abin_neq, abin_lss, abin_leq, abin_gtr, abin_geq, aunary_not, aextract, Option.some.injEq, Prod.mk.injEq, Value.bool.injEq, exists_eq_left', exists_and_left, and_assoc, decide_eq_true_eq, decide_eq_false_iff_not, if_true, if_false, Nat.zero_add, Nat.add_zero, Option.bind_some, true_and, and_true, forall_const, true_implies, Bool.not_eq_true, Bool.false_eq_true, false_implies, ite_self, Nat.mul_one, t10, hc.t1]
  refine m_cond (t := decide (t ≤ ticks)) (by simp [evalT, FT.get_set, FT.setL, faS_ptr, nilS_ptr, nilS_func, nilS_yield, pickS_bool, ldS_ptr, list_cells, list_ro, partS_none, lenSl_of, lenStr_of, cvInt_of, aminmax_max, aminmax_min, abin_add, abin_sub, abin_mul, abin_eql, abin_neq, abin_lss, abin_leq, abin_gtr, abin_geq, aunary_not, aextract]) (fun hle => m_skip ?_) (fun hle => m_exit ?_)
  · have hle : t ≤ ticks := of_decide_eq_true hle
    simp only
    refine m_seq (m_block (m_seq (m_reg ?_)))
    rw [reg3_16]
    simp (decide := true) only [FT.get_set, FT.setL, faS_ptr, nilS_ptr, nilS_func, nilS_yield, pickS_bool, ldS_ptr, list_cells, list_ro, partS_none, lenSl_of, lenStr_of, cvInt_of, aminmax_max, aminmax_min, abin_add, abin_sub, abin_mul, abin_eql, abin_neq, abin_lss, abin_leq, abin_gtr, abin_geq, aunary_not, aextract, Option.some.injEq, Prod.mk.injEq, Value.bool.injEq, exists_eq_left', exists_and_left, and_assoc, decide_eq_true_eq, decide_eq_false_iff_not, if_true, if_false, Nat.zero_add, Nat.add_zero, Option.bind_some, true_and, and_true, forall_const, true_implies, Bool.not_eq_true, Bool.false_eq_true, false_implies, ite_self, Nat.mul_one, hc.t5]
    refine tick9 hc.clk (by omega) ⟨by omega, by omega⟩ (by have := hc.ll; omega) fun v w' S2 g1 g2 g3 hc2 hv => ?_
    refine m_seq (m_reg ?_)
    rw [reg3_17]
    have e4 : (4 : Int) + t + 1 = 4 + (t + 1) := by omega
    rw [e4] at hc2 hv
    have hw2 := hc.hw.tick
    rw [e4] at hw2
    have hll := hc.ll
    have hle1 : (l.take (dueN (4 + (t + 1)) l)).length ≤ 100000 := by rw [List.length_take]; omega
    have tc2 : ∀ T', T'.get 0 = T.get 0 → T'.get 1 = T.get 1 → T'.get 5 = T.get 5 → T'.get 9 = T.get 9 → TC S0 ds dv ticks c cb (t + 1) w' (l.drop (dueN (4 + (t + 1)) l)) came T' S2 := fun T' e0 e1 e5 e9 =>
      ⟨⟨by omega, fun y hy => by rw [g2 y (by omega) (by omega) (hc.clk.2.1.av (by omega))]; exact hc.old.2 y hy⟩, q1, q2, by omega, hc2, hw2, by rw [g2 cb q3 (by omega) hc.av]; exact hc.cam, g3 cb q3 hc.av, e0.trans hc.t0, e1.trans hc.t1, e5.trans hc.t5, e9.trans hc.t9, by rw [List.length_drop]; omega⟩
    refine MWp.mono (outs3 (S0 := S0) (ds := ds) (dv := dv) (ticks := ticks) (t := t) (c := c) (cb := cb) (out := l.take (dueN (4 + (t + 1)) l)) hb wf0 hn ⟨h1, by omega⟩ hle1 (fun j x hx => ?_) (fun i j x y hij hx hy => ?_) ⟨0, w', _, came, by omega, tc2 _ ?_ ?_ ?_ ?_, ?_, hcm.iff fun i d hd => ?_, ?_, ?_⟩) ?_
    · rw [← e4] at hx
      obtain ⟨i, d, _, a2, a3, a4⟩ := hc.hw.due j x hx
      refine ⟨i, d, a2, a3, ?_⟩
      rw [a3] at a4
      unfold tmOf at a4
      simp only at a4; omega
    · rw [← e4] at hx hy
      exact hc.hw.due_lt i j x y hij hx hy
    · simp [FT.get_set, FT.setL, faS_ptr, nilS_ptr, nilS_func, nilS_yield, pickS_bool, ldS_ptr, list_cells, list_ro, partS_none, lenSl_of, lenStr_of, cvInt_of, aminmax_max, aminmax_min, abin_add, abin_sub, abin_mul, abin_eql, abin_neq, abin_lss, abin_leq, abin_gtr, abin_geq, aunary_not, aextract]
    · simp [FT.get_set, FT.setL, faS_ptr, nilS_ptr, nilS_func, nilS_yield, pickS_bool, ldS_ptr, list_cells, list_ro, partS_none, lenSl_of, lenStr_of, cvInt_of, aminmax_max, aminmax_min, abin_add, abin_sub, abin_mul, abin_eql, abin_neq, abin_lss, abin_leq, abin_gtr, abin_geq, aunary_not, aextract]
    · simp [FT.get_set, FT.setL, faS_ptr, nilS_ptr, nilS_func, nilS_yield, pickS_bool, ldS_ptr, list_cells, list_ro, partS_none, lenSl_of, lenStr_of, cvInt_of, aminmax_max, aminmax_min, abin_add, abin_sub, abin_mul, abin_eql, abin_neq, abin_lss, abin_leq, abin_gtr, abin_geq, aunary_not, aextract]
    · simp [FT.get_set, FT.setL, faS_ptr, nilS_ptr, nilS_func, nilS_yield, pickS_bool, ldS_ptr, list_cells, list_ro, partS_none, lenSl_of, lenStr_of, cvInt_of, aminmax_max, aminmax_min, abin_add, abin_sub, abin_mul, abin_eql, abin_neq, abin_lss, abin_leq, abin_gtr, abin_geq, aunary_not, aextract]
    · simp only [FT.get_set]
      exact hv.weaken (by omega)
    · constructor
      · exact fun h => .inl h
      · rintro (h | ⟨q, hq, _⟩)
        · exact h
        · omega
    · simp [FT.get_set, FT.setL, faS_ptr, nilS_ptr, nilS_func, nilS_yield, pickS_bool, ldS_ptr, list_cells, list_ro, partS_none, lenSl_of, lenStr_of, cvInt_of, aminmax_max, aminmax_min, abin_add, abin_sub, abin_mul, abin_eql, abin_neq, abin_lss, abin_leq, abin_gtr, abin_geq, aunary_not, aextract, t10]
    · simp [FT.get_set, FT.setL, faS_ptr, nilS_ptr, nilS_func, nilS_yield, pickS_bool, ldS_ptr, list_cells, list_ro, partS_none, lenSl_of, lenStr_of, cvInt_of, aminmax_max, aminmax_min, abin_add, abin_sub, abin_mul, abin_eql, abin_neq, abin_lss, abin_leq, abin_gtr, abin_geq, aunary_not, aextract]
    rintro _ T3 S3 ⟨rfl, j, w3, l3, came3, hj, hc3, hv3, hcm3, t10', t12'⟩
    simp only
    refine m_reg ?_
    rw [reg3_15]
    have hwt : IntKind.i64.wrap (t + 1) = t + 1 := wrap_i64 (by omega) (by omega)
    simp (decide := true) only [FT.get_set, FT.setL, faS_ptr, nilS_ptr, nilS_func, nilS_yield, pickS_bool, ldS_ptr, list_cells, list_ro, partS_none, lenSl_of, lenStr_of, cvInt_of, aminmax_max, aminmax_min, abin_add, abin_sub, abin_mul, abin_eql, abin_neq, abin_lss, abin_leq, abin_gtr, abin_geq, aunary_not, aextract, Option.some.injEq, Prod.mk.injEq, Value.bool.injEq, exists_eq_left', exists_and_left, and_assoc, decide_eq_true_eq, decide_eq_false_iff_not, if_true, if_false, Nat.zero_add, Nat.add_zero, Option.bind_some, true_and, and_true, forall_const, true_implies, Bool.not_eq_true, Bool.false_eq_true, false_implies, ite_self, Nat.mul_one, t10', hwt]
    refine ⟨m - 1, by omega, t + 1, w3, l3, came3, by omega, by omega, ⟨hc3.old, hc3.c0, hc3.ccb, hc3.cbn, hc3.clk, hc3.hw, hc3.cam, hc3.av, by simp [FT.get_set, FT.setL, faS_ptr, nilS_ptr, nilS_func, nilS_yield, pickS_bool, ldS_ptr, list_cells, list_ro, partS_none, lenSl_of, lenStr_of, cvInt_of, aminmax_max, aminmax_min, abin_add, abin_sub, abin_mul, abin_eql, abin_neq, abin_lss, abin_leq, abin_gtr, abin_geq, aunary_not, aextract, hc3.t0], by simp [FT.get_set, FT.setL, faS_ptr, nilS_ptr, nilS_func, nilS_yield, pickS_bool, ldS_ptr, list_cells, list_ro, partS_none, lenSl_of, lenStr_of, cvInt_of, aminmax_max, aminmax_min, abin_add, abin_sub, abin_mul, abin_eql, abin_neq, abin_lss, abin_leq, abin_gtr, abin_geq, aunary_not, aextract, hc3.t1], by simp [FT.get_set, FT.setL, faS_ptr, nilS_ptr, nilS_func, nilS_yield, pickS_bool, ldS_ptr, list_cells, list_ro, partS_none, lenSl_of, lenStr_of, cvInt_of, aminmax_max, aminmax_min, abin_add, abin_sub, abin_mul, abin_eql, abin_neq, abin_lss, abin_leq, abin_gtr, abin_geq, aunary_not, aextract, hc3.t5], by simp [FT.get_set, FT.setL, faS_ptr, nilS_ptr, nilS_func, nilS_yield, pickS_bool, ldS_ptr, list_cells, list_ro, partS_none, lenSl_of, lenStr_of, cvInt_of, aminmax_max, aminmax_min, abin_add, abin_sub, abin_mul, abin_eql, abin_neq, abin_lss, abin_leq, abin_gtr, abin_geq, aunary_not, aextract, hc3.t9], hc3.ll⟩, hcm3.iff fun i d hd => ?_, by simp [FT.get_set, FT.setL, faS_ptr, nilS_ptr, nilS_func, nilS_yield, pickS_bool, ldS_ptr, list_cells, list_ro, partS_none, lenSl_of, lenStr_of, cvInt_of, aminmax_max, aminmax_min, abin_add, abin_sub, abin_mul, abin_eql, abin_neq, abin_lss, abin_leq, abin_gtr, abin_geq, aunary_not, aextract]⟩
    · constructor
      · rintro (h | ⟨q, hq, hq2⟩)
        · omega
        · rw [← e4] at hq2
          obtain ⟨_, _, _, _, _, a4⟩ := hc.hw.due q _ hq2
          unfold tmOf at a4
          simp only at a4; omega
      · intro h
        by_cases hd1 : (d : Int) + 1 < t
        · exact .inl hd1
        · right
          obtain ⟨q, hq⟩ := hc.hw.due_all i d (List.getElem?_eq_some_iff.1 hd).1 hd (by unfold tmOf; simp only; omega)
          rw [e4] at hq
          exact ⟨q, by have := (List.getElem?_eq_some_iff.1 hq).1; omega, hq⟩
  · have hgt : ¬ t ≤ ticks := of_decide_eq_false hle
    have htt : t = ticks + 1 := by omega
    subst htt
    simp only [if_true]
    have fin : ∃ (w : Value) (l : List Tm) (came : List Int), TC S0 ds dv ticks c cb (ticks + 1) w l came (((T.set (.int .i64 (ticks + 1)) 60).set (.int .i64 ticks) 61).set (.bool (decide (ticks + 1 ≤ ticks))) 62) S1 ∧ Came ds came (fun _ d => (d : Int) + 1 < ticks + 1) := ⟨w, l, came, ⟨hc.old, q1, q2, q3, hc.clk, hc.hw, hc.cam, hc.av, by simp [FT.get_set, FT.setL, faS_ptr, nilS_ptr, nilS_func, nilS_yield, pickS_bool, ldS_ptr, list_cells, list_ro, partS_none, lenSl_of, lenStr_of, cvInt_of, aminmax_max, aminmax_min, abin_add, abin_sub, abin_mul, abin_eql, abin_neq, abin_lss, abin_leq, abin_gtr, abin_geq, aunary_not, aextract, hc.t0], by simp [FT.get_set, FT.setL, faS_ptr, nilS_ptr, nilS_func, nilS_yield, pickS_bool, ldS_ptr, list_cells, list_ro, partS_none, lenSl_of, lenStr_of, cvInt_of, aminmax_max, aminmax_min, abin_add, abin_sub, abin_mul, abin_eql, abin_neq, abin_lss, abin_leq, abin_gtr, abin_geq, aunary_not, aextract, hc.t1], by simp [FT.get_set, FT.setL, faS_ptr, nilS_ptr, nilS_func, nilS_yield, pickS_bool, ldS_ptr, list_cells, list_ro, partS_none, lenSl_of, lenStr_of, cvInt_of, aminmax_max, aminmax_min, abin_add, abin_sub, abin_mul, abin_eql, abin_neq, abin_lss, abin_leq, abin_gtr, abin_geq, aunary_not, aextract, hc.t5], by simp [FT.get_set, FT.setL, faS_ptr, nilS_ptr, nilS_func, nilS_yield, pickS_bool, ldS_ptr, list_cells, list_ro, partS_none, lenSl_of, lenStr_of, cvInt_of, aminmax_max, aminmax_min, abin_add, abin_sub, abin_mul, abin_eql, abin_neq, abin_lss, abin_leq, abin_gtr, abin_geq, aunary_not, aextract, hc.t9], hc.ll⟩, hcm⟩
    first | exact fin | exact ⟨rfl, fin⟩ | exact ⟨trivial, fin⟩

def EI3 (S0 : MS) (ds : List Nat) (dv : Value) (ticks : Int) (c cb : Nat) (w : Value) (l : List Tm) (came : List Int) (S1 : MS) (m : Nat) (T : FT) (S : MS) : Prop :=
  ∃ i : Nat, i + m = ds.length ∧ S = S1 ∧ TC S0 ds dv ticks c cb (ticks + 1) w l came T S ∧ T.get 14 = .int .i64 i

theorem law3 {S : MS} {ds : List Nat} {dv : Value} (ticks : Int) (hb : By S dv ds) : CallM Try.prog O 3 [dv, .int .i64 ticks] S fun v _ => v = .bool true := by
  refine callM_wf fun wf => ?_
  refine callM_body (fnIs is3 body3 res3) (O_none (by decide)) (by simp) ?_
  have fin : ∀ (T' : FT) (S' : MS), T'.get 4 = .bool true → ((match AExit.ret with | .exit _ => False | _ => True) ∧ ∃ vs, resM Try.prog T' S' [.tmp 4] = some vs ∧ oneOrTuple vs = .bool true) := by
    intro T' S' h4
    simp [resM, h4, oneOrTuple]
  refine m_seq (m_reg ?_)
  rw [reg3_0]
  refine m_seq (m_seq (m_reg ?_))
  rw [reg3_1]
  refine callM_known (v := .bool true) rfl ?_
  simp (decide := true) only [FT.get_set, FT.setL, faS_ptr, nilS_ptr, nilS_func, nilS_yield, pickS_bool, ldS_ptr, list_cells, list_ro, partS_none, lenSl_of, lenStr_of, cvInt_of, aminmax_max, aminmax_min, abin_add, abin_sub, abin_mul, abin_eql, abin_neq, abin_lss, abin_leq, abin_gtr, abin_geq, aunary_not, aextract, Option.some.injEq, Prod.mk.injEq, Value.bool.injEq, exists_eq_left', exists_and_left, and_assoc, decide_eq_true_eq, decide_eq_false_iff_not, if_true, if_false, Nat.zero_add, Nat.add_zero, Option.bind_some, true_and, and_true, forall_const, true_implies, Bool.not_eq_true, Bool.false_eq_true, false_implies, ite_self, Nat.mul_one, Bool.not_true]
  refine m_cond (t := false) (by simp [evalT, FT.get_set, FT.setL, faS_ptr, nilS_ptr, nilS_func, nilS_yield, pickS_bool, ldS_ptr, list_cells, list_ro, partS_none, lenSl_of, lenStr_of, cvInt_of, aminmax_max, aminmax_min, abin_add, abin_sub, abin_mul, abin_eql, abin_neq, abin_lss, abin_leq, abin_gtr, abin_geq, aunary_not, aextract]) (fun h => by cases h) (fun _ => m_skip ?_)
  simp only
  have badQ : ∀ (T : FT) (Q : AExit → FT → MS → Prop), T.get 28 = .bool true → (∀ T' S', T'.get 4 = .bool true → Q .ret T' S') → MWp Try.prog O 156 (.cond (.tmp 28) (.seq (.region 4 (ro 3 4) false) .ret) .skip) T S Q := by
    intro T Q h hq
    refine m_cond (t := true) h (fun _ => ?_) (fun h => by cases h)
    refine m_seq (m_reg ?_)
    rw [reg3_4]
    exact m_ret (hq _ _ (by simp [FT.get_set, FT.setL, faS_ptr, nilS_ptr, nilS_func, nilS_yield, pickS_bool, ldS_ptr, list_cells, list_ro, partS_none, lenSl_of, lenStr_of, cvInt_of, aminmax_max, aminmax_min, abin_add, abin_sub, abin_mul, abin_eql, abin_neq, abin_lss, abin_leq, abin_gtr, abin_geq, aunary_not, aextract]))
  refine m_seq (m_seq (m_reg ?_))
  rw [reg3_3]
  by_cases h1 : (ds.length : Int) > 12
  · have e1 : decide ((ds.length : Int) > 12) = true := decide_eq_true h1
    simp (decide := true) only [FT.get_set, FT.setL, faS_ptr, nilS_ptr, nilS_func, nilS_yield, pickS_bool, ldS_ptr, list_cells, list_ro, partS_none, lenSl_of, lenStr_of, cvInt_of, aminmax_max, aminmax_min, abin_add, abin_sub, abin_mul, abin_eql, abin_neq, abin_lss, abin_leq, abin_gtr, abin_geq, aunary_not, aextract, Option.some.injEq, Prod.mk.injEq, Value.bool.injEq, exists_eq_left', exists_and_left, and_assoc, decide_eq_true_eq, decide_eq_false_iff_not, if_true, if_false, Nat.zero_add, Nat.add_zero, Option.bind_some, true_and, and_true, forall_const, true_implies, Bool.not_eq_true, Bool.false_eq_true, false_implies, ite_self, Nat.mul_one, hb.len, e1]
    refine badQ _ _ (by simp [FT.get_set, FT.setL, faS_ptr, nilS_ptr, nilS_func, nilS_yield, pickS_bool, ldS_ptr, list_cells, list_ro, partS_none, lenSl_of, lenStr_of, cvInt_of, aminmax_max, aminmax_min, abin_add, abin_sub, abin_mul, abin_eql, abin_neq, abin_lss, abin_leq, abin_gtr, abin_geq, aunary_not, aextract]) fun T' S' h => ?_
    exact fin _ _ h
  have e1 : decide ((ds.length : Int) > 12) = false := decide_eq_false h1
  by_cases h2 : ticks < 0
  · have e2 : decide (ticks < 0) = true := decide_eq_true h2
    simp (decide := true) only [FT.get_set, FT.setL, faS_ptr, nilS_ptr, nilS_func, nilS_yield, pickS_bool, ldS_ptr, list_cells, list_ro, partS_none, lenSl_of, lenStr_of, cvInt_of, aminmax_max, aminmax_min, abin_add, abin_sub, abin_mul, abin_eql, abin_neq, abin_lss, abin_leq, abin_gtr, abin_geq, aunary_not, aextract, Option.some.injEq, Prod.mk.injEq, Value.bool.injEq, exists_eq_left', exists_and_left, and_assoc, decide_eq_true_eq, decide_eq_false_iff_not, if_true, if_false, Nat.zero_add, Nat.add_zero, Option.bind_some, true_and, and_true, forall_const, true_implies, Bool.not_eq_true, Bool.false_eq_true, false_implies, ite_self, Nat.mul_one, hb.len, e1, e2]
    refine badQ _ _ (by simp [FT.get_set, FT.setL, faS_ptr, nilS_ptr, nilS_func, nilS_yield, pickS_bool, ldS_ptr, list_cells, list_ro, partS_none, lenSl_of, lenStr_of, cvInt_of, aminmax_max, aminmax_min, abin_add, abin_sub, abin_mul, abin_eql, abin_neq, abin_lss, abin_leq, abin_gtr, abin_geq, aunary_not, aextract]) fun T' S' h => ?_
    exact fin _ _ h
  have e2 : decide (ticks < 0) = false := decide_eq_false h2
  by_cases h3 : ticks > 300
  · have e3 : decide (ticks > 300) = true := decide_eq_true h3
    simp (decide := true) only [FT.get_set, FT.setL, faS_ptr, nilS_ptr, nilS_func, nilS_yield, pickS_bool, ldS_ptr, list_cells, list_ro, partS_none, lenSl_of, lenStr_of, cvInt_of, aminmax_max, aminmax_min, abin_add, abin_sub, abin_mul, abin_eql, abin_neq, abin_lss, abin_leq, abin_gtr, abin_geq, aunary_not, aextract, Option.some.injEq, Prod.mk.injEq, Value.bool.injEq, exists_eq_left', exists_and_left, and_assoc, decide_eq_true_eq, decide_eq_false_iff_not, if_true, if_false, Nat.zero_add, Nat.add_zero, Option.bind_some, true_and, and_true, forall_const, true_implies, Bool.not_eq_true, Bool.false_eq_true, false_implies, ite_self, Nat.mul_one, hb.len, e1, e2, e3]
    refine badQ _ _ (by simp [FT.get_set, FT.setL, faS_ptr, nilS_ptr, nilS_func, nilS_yield, pickS_bool, ldS_ptr, list_cells, list_ro, partS_none, lenSl_of, lenStr_of, cvInt_of, aminmax_max, aminmax_min, abin_add, abin_sub, abin_mul, abin_eql, abin_neq, abin_lss, abin_leq, abin_gtr, abin_geq, aunary_not, aextract]) fun T' S' h => ?_
    exact fin _ _ h
  have e3 : decide (ticks > 300) = false := decide_eq_false h3
  have hn : ds.length ≤ 12 := by omega
  simp (decide := true) only [FT.get_set, FT.setL, faS_ptr, nilS_ptr, nilS_func, nilS_yield, pickS_bool, ldS_ptr, list_cells, list_ro, partS_none, lenSl_of, lenStr_of, cvInt_of, aminmax_max, aminmax_min, abin_add, abin_sub, abin_mul, abin_eql, abin_neq, abin_lss, abin_leq, abin_gtr, abin_geq, aunary_not, aextract, Option.some.injEq, Prod.mk.injEq, Value.bool.injEq, exists_eq_left', exists_and_left, and_assoc, decide_eq_true_eq, decide_eq_false_iff_not, if_true, if_false, Nat.zero_add, Nat.add_zero, Option.bind_some, true_and, and_true, forall_const, true_implies, Bool.not_eq_true, Bool.false_eq_true, false_implies, ite_self, Nat.mul_one, hb.len, e1, e2, e3]
  refine m_cond (t := false) (by simp [evalT, FT.get_set, FT.setL, faS_ptr, nilS_ptr, nilS_func, nilS_yield, pickS_bool, ldS_ptr, list_cells, list_ro, partS_none, lenSl_of, lenStr_of, cvInt_of, aminmax_max, aminmax_min, abin_add, abin_sub, abin_mul, abin_eql, abin_neq, abin_lss, abin_leq, abin_gtr, abin_geq, aunary_not, aextract]) (fun h => by cases h) (fun _ => m_skip ?_)
  simp only
  refine m_seq (m_reg ?_)
  rw [reg3_5]
  refine new7 5 10 (by decide) (by decide) (by decide) (by decide) fun c S1 f1 hc0 hc hcn => ?_
  refine m_seq (m_seq (m_reg ?_))
  rw [reg3_6]
  refine MWp.mono (sets3 (S0 := S) (ds := ds) (dv := dv) (ticks := ticks) (c := c) hb wf hn ⟨0, .slice none 0 0, [], by omega, rfl, hc, ⟨List.Pairwise.nil, fun x hx => (by cases hx), fun i d hi => absurd hi (by omega)⟩, f1, hc0, by omega, by simp [FT.get_set, FT.setL, faS_ptr, nilS_ptr, nilS_func, nilS_yield, pickS_bool, ldS_ptr, list_cells, list_ro, partS_none, lenSl_of, lenStr_of, cvInt_of, aminmax_max, aminmax_min, abin_add, abin_sub, abin_mul, abin_eql, abin_neq, abin_lss, abin_leq, abin_gtr, abin_geq, aunary_not, aextract], by simp [FT.get_set, FT.setL, faS_ptr, nilS_ptr, nilS_func, nilS_yield, pickS_bool, ldS_ptr, list_cells, list_ro, partS_none, lenSl_of, lenStr_of, cvInt_of, aminmax_max, aminmax_min, abin_add, abin_sub, abin_mul, abin_eql, abin_neq, abin_lss, abin_leq, abin_gtr, abin_geq, aunary_not, aextract], by simp [FT.get_set, FT.setL, faS_ptr, nilS_ptr, nilS_func, nilS_yield, pickS_bool, ldS_ptr, list_cells, list_ro, partS_none, lenSl_of, lenStr_of, cvInt_of, aminmax_max, aminmax_min, abin_add, abin_sub, abin_mul, abin_eql, abin_neq, abin_lss, abin_leq, abin_gtr, abin_geq, aunary_not, aextract], by simp [FT.get_set, FT.setL, faS_ptr, nilS_ptr, nilS_func, nilS_yield, pickS_bool, ldS_ptr, list_cells, list_ro, partS_none, lenSl_of, lenStr_of, cvInt_of, aminmax_max, aminmax_min, abin_add, abin_sub, abin_mul, abin_eql, abin_neq, abin_lss, abin_leq, abin_gtr, abin_geq, aunary_not, aextract]⟩) ?_
  rintro _ T2 S2 ⟨rfl, k, w, l, hk, hl, hc2, hw2, f2, _, hcn2, t0, t1, t5, t6⟩
  have hkn : k = ds.length := by omega
  subst hkn
  simp only
  refine m_wf fun wf2 => m_seq (m_reg ?_)
  rw [reg3_12]
  simp (decide := true) only [FT.get_set, FT.setL, faS_ptr, nilS_ptr, nilS_func, nilS_yield, pickS_bool, ldS_ptr, list_cells, list_ro, partS_none, lenSl_of, lenStr_of, cvInt_of, aminmax_max, aminmax_min, abin_add, abin_sub, abin_mul, abin_eql, abin_neq, abin_lss, abin_leq, abin_gtr, abin_geq, aunary_not, aextract, Option.some.injEq, Prod.mk.injEq, Value.bool.injEq, exists_eq_left', exists_and_left, and_assoc, decide_eq_true_eq, decide_eq_false_iff_not, if_true, if_false, Nat.zero_add, Nat.add_zero, Option.bind_some, true_and, and_true, forall_const, true_implies, Bool.not_eq_true, Bool.false_eq_true, false_implies, ite_self, Nat.mul_one, t0, hb.len, msS_of (n := ds.length) S2 1 8 [.int .i64 0] .i64 .i64 (by omega) (by omega)]
  have hz : zeros [.int .i64 0] ds.length = (List.replicate ds.length (0 : Int)).map fun x => .int .i64 x := by rw [zeros_one, List.map_replicate]
  rw [hz]
  have f3 := old_fresh S2 ((List.replicate ds.length (0 : Int)).map fun x => Value.int .i64 x) 1
  have hcam := fresh_at S2 ((List.replicate ds.length (0 : Int)).map fun x => Value.int .i64 x) 1
  refine m_seq (m_seq (m_reg ?_))
  rw [reg3_13]
  refine MWp.mono (ticks3 (S0 := S) (ds := ds) (dv := dv) (ticks := ticks) (c := c) (cb := S2.n) hb wf hn ⟨by omega, by omega⟩ ⟨1, w, l, List.replicate ds.length 0, by omega, by omega, ⟨f2.trans f3, hc0, by omega, by simp only [fresh_n]; omega, hc2.keep wf2 f3.2, hw2, hcam, hc2.2.1.avN wf2 (Nat.le_refl _), by simp [FT.get_set, FT.setL, faS_ptr, nilS_ptr, nilS_func, nilS_yield, pickS_bool, ldS_ptr, list_cells, list_ro, partS_none, lenSl_of, lenStr_of, cvInt_of, aminmax_max, aminmax_min, abin_add, abin_sub, abin_mul, abin_eql, abin_neq, abin_lss, abin_leq, abin_gtr, abin_geq, aunary_not, aextract, t0], by simp [FT.get_set, FT.setL, faS_ptr, nilS_ptr, nilS_func, nilS_yield, pickS_bool, ldS_ptr, list_cells, list_ro, partS_none, lenSl_of, lenStr_of, cvInt_of, aminmax_max, aminmax_min, abin_add, abin_sub, abin_mul, abin_eql, abin_neq, abin_lss, abin_leq, abin_gtr, abin_geq, aunary_not, aextract, t1], by simp [FT.get_set, FT.setL, faS_ptr, nilS_ptr, nilS_func, nilS_yield, pickS_bool, ldS_ptr, list_cells, list_ro, partS_none, lenSl_of, lenStr_of, cvInt_of, aminmax_max, aminmax_min, abin_add, abin_sub, abin_mul, abin_eql, abin_neq, abin_lss, abin_leq, abin_gtr, abin_geq, aunary_not, aextract, t5], by simp [FT.get_set, FT.setL, faS_ptr, nilS_ptr, nilS_func, nilS_yield, pickS_bool, ldS_ptr, list_cells, list_ro, partS_none, lenSl_of, lenStr_of, cvInt_of, aminmax_max, aminmax_min, abin_add, abin_sub, abin_mul, abin_eql, abin_neq, abin_lss, abin_leq, abin_gtr, abin_geq, aunary_not, aextract], by omega⟩, ⟨by simp, fun i d hd => ⟨0, ?_, .inr ⟨rfl, by omega⟩⟩⟩, by simp [FT.get_set, FT.setL, faS_ptr, nilS_ptr, nilS_func, nilS_yield, pickS_bool, ldS_ptr, list_cells, list_ro, partS_none, lenSl_of, lenStr_of, cvInt_of, aminmax_max, aminmax_min, abin_add, abin_sub, abin_mul, abin_eql, abin_neq, abin_lss, abin_leq, abin_gtr, abin_geq, aunary_not, aextract]⟩) ?_
  · rw [List.getElem?_replicate, if_pos (List.getElem?_eq_some_iff.1 hd).1]
  rintro _ T4 S4 ⟨rfl, w4, l4, came, hc4, hcm4⟩
  simp only
  refine m_seq (m_seq (m_reg ?_))
  rw [reg3_24]
  refine m_block (m_loop (fun m T S' => EI3 S ds dv ticks c S2.n w4 l4 came S4 m T S') ds.length ⟨0, by omega, rfl, ⟨hc4.old, hc4.c0, hc4.ccb, hc4.cbn, hc4.clk, hc4.hw, hc4.cam, hc4.av, by simp [FT.get_set, FT.setL, faS_ptr, nilS_ptr, nilS_func, nilS_yield, pickS_bool, ldS_ptr, list_cells, list_ro, partS_none, lenSl_of, lenStr_of, cvInt_of, aminmax_max, aminmax_min, abin_add, abin_sub, abin_mul, abin_eql, abin_neq, abin_lss, abin_leq, abin_gtr, abin_geq, aunary_not, aextract, hc4.t0], by simp [FT.get_set, FT.setL, faS_ptr, nilS_ptr, nilS_func, nilS_yield, pickS_bool, ldS_ptr, list_cells, list_ro, partS_none, lenSl_of, lenStr_of, cvInt_of, aminmax_max, aminmax_min, abin_add, abin_sub, abin_mul, abin_eql, abin_neq, abin_lss, abin_leq, abin_gtr, abin_geq, aunary_not, aextract, hc4.t1], by simp [FT.get_set, FT.setL, faS_ptr, nilS_ptr, nilS_func, nilS_yield, pickS_bool, ldS_ptr, list_cells, list_ro, partS_none, lenSl_of, lenStr_of, cvInt_of, aminmax_max, aminmax_min, abin_add, abin_sub, abin_mul, abin_eql, abin_neq, abin_lss, abin_leq, abin_gtr, abin_geq, aunary_not, aextract, hc4.t5], by simp [FT.get_set, FT.setL, faS_ptr, nilS_ptr, nilS_func, nilS_yield, pickS_bool, ldS_ptr, list_cells, list_ro, partS_none, lenSl_of, lenStr_of, cvInt_of, aminmax_max, aminmax_min, abin_add, abin_sub, abin_mul, abin_eql, abin_neq, abin_lss, abin_leq, abin_gtr, abin_geq, aunary_not, aextract, hc4.t9], hc4.ll⟩, by simp [FT.get_set, FT.setL, faS_ptr, nilS_ptr, nilS_func, nilS_yield, pickS_bool, ldS_ptr, list_cells, list_ro, partS_none, lenSl_of, lenStr_of, cvInt_of, aminmax_max, aminmax_min, abin_add, abin_sub, abin_mul, abin_eql, abin_neq, abin_lss, abin_leq, abin_gtr, abin_geq, aunary_not, aextract]⟩ ?_)
  clear hc4
  rintro m T S5 ⟨i, hi, rfl, hc4, t14⟩
  refine m_seq (m_seq (m_reg ?_))
  rw [reg3_25]
  simp (decide := true) only [FT.get_set, FT.setL, faS_ptr, nilS_ptr, nilS_func, nilS_yield, pickS_bool, ldS_ptr, list_cells, list_ro, partS_none, lenSl_of, lenStr_of, cvInt_of, aminmax_max, aminmax_min, abin_add, abin_sub, abin_mul, abin_eql, abin_neq, abin_lss, abin_leq, abin_gtr, abin_geq, aunary_not, aextract, Option.some.injEq, Prod.mk.injEq, Value.bool.injEq, exists_eq_left', exists_and_left, and_assoc, decide_eq_true_eq, decide_eq_false_iff_not, if_true, if_false, Nat.zero_add, Nat.add_zero, Option.bind_some, true_and, and_true, forall_const, true_implies, Bool.not_eq_true, Bool.false_eq_true, false_implies, ite_self, Nat.mul_one, t14, hc4.t0, hb.len]
  refine m_cond (t := decide ((i : Int) < ds.length)) (by simp [evalT, FT.get_set, FT.setL, faS_ptr, nilS_ptr, nilS_func, nilS_yield, pickS_bool, ldS_ptr, list_cells, list_ro, partS_none, lenSl_of, lenStr_of, cvInt_of, aminmax_max, aminmax_min, abin_add, abin_sub, abin_mul, abin_eql, abin_neq, abin_lss, abin_leq, abin_gtr, abin_geq, aunary_not, aextract]) (fun hlt => m_skip ?_) (fun hlt => m_exit ?_)
  · have hlt : i < ds.length := by have := of_decide_eq_true hlt; omega
    simp only
    obtain ⟨d, hd⟩ : ∃ d, ds[i]? = some d := ⟨_, List.getElem?_eq_getElem hlt⟩
    have hd256 := hb.small d (List.mem_of_getElem? hd)
    obtain ⟨p, hp1, hp2⟩ := (hb.keep wf hc4.old.2).at hd
    obtain ⟨x0, hx0, hx1⟩ := hcm4.2 i d hd
    have hcv : IntKind.i64.wrap (d : Int) = d := wrap_i64 (by omega) (by omega)
    have hcw : IntKind.i64.wrap ((d : Int) + 1) = (d : Int) + 1 := wrap_i64 (by omega) (by omega)
    have hwi : IntKind.i64.wrap ((i : Int) + 1) = ((i + 1 : Nat) : Int) := by rw [wrap_i64 (by omega) (by omega)]; rfl
    have hcx : (came.map fun x => Value.int .i64 x)[i]? = some (.int .i64 x0) := by rw [List.getElem?_map, hx0]; rfl
    have hiac : iaSS 1 (.slice (some ⟨S2.n, 0, none⟩) ds.length ds.length) (.int .i64 (i : Int)) = some (.pointer (some ⟨S2.n, i, none⟩)) := by rw [iaSS_of (k := .i64) (i := (i : Int)) (by omega) (by omega : (i : Int) < (ds.length : Int)), Int.toNat_natCast, Nat.zero_add, Nat.mul_one]
    have check : ∀ (T' : FT), T'.get 15 = .int .i64 x0 → (∀ k, k = 0 ∨ k = 1 ∨ k = 5 ∨ k = 9 ∨ k = 14 → T'.get k = T.get k) → MWp Try.prog O 156 (.seq (.region 30 (ro 3 30) false) (.cond (.tmp 150) (.seq (.region 31 (ro 3 31) false) .ret) .skip)) T' S5 (fun x T1 S1 => x = .normal ∧ S1 = S5 ∧ ∀ k, k = 0 ∨ k = 1 ∨ k = 5 ∨ k = 9 ∨ k = 14 → T1.get k = T.get k) := by
      intro T' g15 hk
      refine m_seq (m_reg ?_)
      rw [reg3_30]
      simp (decide := true) only [FT.get_set, FT.setL, faS_ptr, nilS_ptr, nilS_func, nilS_yield, pickS_bool, ldS_ptr, list_cells, list_ro, partS_none, lenSl_of, lenStr_of, cvInt_of, aminmax_max, aminmax_min, abin_add, abin_sub, abin_mul, abin_eql, abin_neq, abin_lss, abin_leq, abin_gtr, abin_geq, aunary_not, aextract, Option.some.injEq, Prod.mk.injEq, Value.bool.injEq, exists_eq_left', exists_and_left, and_assoc, decide_eq_true_eq, decide_eq_false_iff_not, if_true, if_false, Nat.zero_add, Nat.add_zero, Option.bind_some, true_and, and_true, forall_const, true_implies, Bool.not_eq_true, Bool.false_eq_true, false_implies, ite_self, Nat.mul_one, g15, hk 9 (by decide), hk 14 (by decide), hc4.t9, t14, hiac, list_of hc4.cam, hcx, bne_self_eq_false]
      refine m_cond (t := false) (by simp [evalT, FT.get_set, FT.setL, faS_ptr, nilS_ptr, nilS_func, nilS_yield, pickS_bool, ldS_ptr, list_cells, list_ro, partS_none, lenSl_of, lenStr_of, cvInt_of, aminmax_max, aminmax_min, abin_add, abin_sub, abin_mul, abin_eql, abin_neq, abin_lss, abin_leq, abin_gtr, abin_geq, aunary_not, aextract]) (fun h => by cases h) (fun _ => m_skip ⟨rfl, rfl, fun k hkk => ?_⟩)
      rcases hkk with rfl | rfl | rfl | rfl | rfl <;> simp [FT.get_set, FT.setL, faS_ptr, nilS_ptr, nilS_func, nilS_yield, pickS_bool, ldS_ptr, list_cells, list_ro, partS_none, lenSl_of, lenStr_of, cvInt_of, aminmax_max, aminmax_min, abin_add, abin_sub, abin_mul, abin_eql, abin_neq, abin_lss, abin_leq, abin_gtr, abin_geq, aunary_not, aextract, hk, hc4.t9, t14]
    have after : ∀ (Q : AExit → FT → MS → Prop) (T' : FT), (∀ k, k = 0 ∨ k = 1 ∨ k = 5 ∨ k = 9 ∨ k = 14 → T'.get k = T.get k) → (∀ T'' S'', (∃ k', k' < m ∧ EI3 S ds dv ticks c S2.n w4 l4 came S5 k' T'' S'') → Q .normal T'' S'') → MWp Try.prog O 156 (.region 26 (ro 3 26) false) T' S5 Q := by
      intro Q T' hk hq
      refine m_reg ?_
      rw [reg3_26]
      simp (decide := true) only [FT.get_set, FT.setL, faS_ptr, nilS_ptr, nilS_func, nilS_yield, pickS_bool, ldS_ptr, list_cells, list_ro, partS_none, lenSl_of, lenStr_of, cvInt_of, aminmax_max, aminmax_min, abin_add, abin_sub, abin_mul, abin_eql, abin_neq, abin_lss, abin_leq, abin_gtr, abin_geq, aunary_not, aextract, Option.some.injEq, Prod.mk.injEq, Value.bool.injEq, exists_eq_left', exists_and_left, and_assoc, decide_eq_true_eq, decide_eq_false_iff_not, if_true, if_false, Nat.zero_add, Nat.add_zero, Option.bind_some, true_and, and_true, forall_const, true_implies, Bool.not_eq_true, Bool.false_eq_true, false_implies, ite_self, Nat.mul_one, hk 14 (by decide), t14, hwi]
      exact hq _ _ ⟨m - 1, by omega, i + 1, by omega, rfl, ⟨hc4.old, hc4.c0, hc4.ccb, hc4.cbn, hc4.clk, hc4.hw, hc4.cam, hc4.av, by simp [FT.get_set, FT.setL, faS_ptr, nilS_ptr, nilS_func, nilS_yield, pickS_bool, ldS_ptr, list_cells, list_ro, partS_none, lenSl_of, lenStr_of, cvInt_of, aminmax_max, aminmax_min, abin_add, abin_sub, abin_mul, abin_eql, abin_neq, abin_lss, abin_leq, abin_gtr, abin_geq, aunary_not, aextract, hk, hc4.t0], by simp [FT.get_set, FT.setL, faS_ptr, nilS_ptr, nilS_func, nilS_yield, pickS_bool, ldS_ptr, list_cells, list_ro, partS_none, lenSl_of, lenStr_of, cvInt_of, aminmax_max, aminmax_min, abin_add, abin_sub, abin_mul, abin_eql, abin_neq, abin_lss, abin_leq, abin_gtr, abin_geq, aunary_not, aextract, hk, hc4.t1], by simp [FT.get_set, FT.setL, faS_ptr, nilS_ptr, nilS_func, nilS_yield, pickS_bool, ldS_ptr, list_cells, list_ro, partS_none, lenSl_of, lenStr_of, cvInt_of, aminmax_max, aminmax_min, abin_add, abin_sub, abin_mul, abin_eql, abin_neq, abin_lss, abin_leq, abin_gtr, abin_geq, aunary_not, aextract, hk, hc4.t5], by simp [FT.get_set, FT.setL, faS_ptr, nilS_ptr, nilS_func, nilS_yield, pickS_bool, ldS_ptr, list_cells, list_ro, partS_none, lenSl_of, lenStr_of, cvInt_of, aminmax_max, aminmax_min, abin_add, abin_sub, abin_mul, abin_eql, abin_neq, abin_lss, abin_leq, abin_gtr, abin_geq, aunary_not, aextract, hk, hc4.t9], hc4.ll⟩, by simp [FT.get_set, FT.setL, faS_ptr, nilS_ptr, nilS_func, nilS_yield, pickS_bool, ldS_ptr, list_cells, list_ro, partS_none, lenSl_of, lenStr_of, cvInt_of, aminmax_max, aminmax_min, abin_add, abin_sub, abin_mul, abin_eql, abin_neq, abin_lss, abin_leq, abin_gtr, abin_geq, aunary_not, aextract]⟩
    refine m_seq (m_block (m_seq (m_reg ?_)))
    rw [reg3_27]
    refine m_seq (m_seq (m_reg ?_))
    rw [reg3_28]
    simp (decide := true) only [FT.get_set, FT.setL, faS_ptr, nilS_ptr, nilS_func, nilS_yield, pickS_bool, ldS_ptr, list_cells, list_ro, partS_none, lenSl_of, lenStr_of, cvInt_of, aminmax_max, aminmax_min, abin_add, abin_sub, abin_mul, abin_eql, abin_neq, abin_lss, abin_leq, abin_gtr, abin_geq, aunary_not, aextract, Option.some.injEq, Prod.mk.injEq, Value.bool.injEq, exists_eq_left', exists_and_left, and_assoc, decide_eq_true_eq, decide_eq_false_iff_not, if_true, if_false, Nat.zero_add, Nat.add_zero, Option.bind_some, true_and, and_true, forall_const, true_implies, Bool.not_eq_true, Bool.false_eq_true, false_implies, ite_self, Nat.mul_one, hc4.t0, hc4.t1, t14, hp1, hp2, cvInt_of, hcv, hcw]
    by_cases hdt : (d : Int) + 1 ≤ ticks
    · have hx01 : x0 = 1 := by
        rcases hx1 with ⟨h, _⟩ | ⟨_, h⟩
        · exact h
        · exact absurd (by omega) h
      refine m_cond (t := true) (by simp [evalT, FT.get_set, FT.setL, faS_ptr, nilS_ptr, nilS_func, nilS_yield, pickS_bool, ldS_ptr, list_cells, list_ro, partS_none, lenSl_of, lenStr_of, cvInt_of, aminmax_max, aminmax_min, abin_add, abin_sub, abin_mul, abin_eql, abin_neq, abin_lss, abin_leq, abin_gtr, abin_geq, aunary_not, aextract, hdt]) (fun _ => m_reg ?_) (fun h => by cases h)
      rw [reg3_29]
      refine MWp.mono (check _ (by simp [FT.get_set, FT.setL, faS_ptr, nilS_ptr, nilS_func, nilS_yield, pickS_bool, ldS_ptr, list_cells, list_ro, partS_none, lenSl_of, lenStr_of, cvInt_of, aminmax_max, aminmax_min, abin_add, abin_sub, abin_mul, abin_eql, abin_neq, abin_lss, abin_leq, abin_gtr, abin_geq, aunary_not, aextract, hx01]) ?_) ?_
      · intro k hkk
        rcases hkk with rfl | rfl | rfl | rfl | rfl <;> simp [FT.get_set, FT.setL, faS_ptr, nilS_ptr, nilS_func, nilS_yield, pickS_bool, ldS_ptr, list_cells, list_ro, partS_none, lenSl_of, lenStr_of, cvInt_of, aminmax_max, aminmax_min, abin_add, abin_sub, abin_mul, abin_eql, abin_neq, abin_lss, abin_leq, abin_gtr, abin_geq, aunary_not, aextract, hc4.t0, hc4.t1, t14]
      · rintro _ T' S' ⟨rfl, rfl, hk⟩
        simp only
        exact after _ T' hk fun T'' S'' h => h
    · have hx01 : x0 = 0 := by
        rcases hx1 with ⟨_, h⟩ | ⟨h, _⟩
        · exact absurd h (by omega)
        · exact h
      refine m_cond (t := false) (by simp [evalT, FT.get_set, FT.setL, faS_ptr, nilS_ptr, nilS_func, nilS_yield, pickS_bool, ldS_ptr, list_cells, list_ro, partS_none, lenSl_of, lenStr_of, cvInt_of, aminmax_max, aminmax_min, abin_add, abin_sub, abin_mul, abin_eql, abin_neq, abin_lss, abin_leq, abin_gtr, abin_geq, aunary_not, aextract, hdt]) (fun h => by cases h) (fun _ => m_skip ?_)
      simp only
      refine MWp.mono (check _ (by simp [FT.get_set, FT.setL, faS_ptr, nilS_ptr, nilS_func, nilS_yield, pickS_bool, ldS_ptr, list_cells, list_ro, partS_none, lenSl_of, lenStr_of, cvInt_of, aminmax_max, aminmax_min, abin_add, abin_sub, abin_mul, abin_eql, abin_neq, abin_lss, abin_leq, abin_gtr, abin_geq, aunary_not, aextract, hx01]) ?_) ?_
      · intro k hkk
        rcases hkk with rfl | rfl | rfl | rfl | rfl <;> simp [FT.get_set, FT.setL, faS_ptr, nilS_ptr, nilS_func, nilS_yield, pickS_bool, ldS_ptr, list_cells, list_ro, partS_none, lenSl_of, lenStr_of, cvInt_of, aminmax_max, aminmax_min, abin_add, abin_sub, abin_mul, abin_eql, abin_neq, abin_lss, abin_leq, abin_gtr, abin_geq, aunary_not, aextract, hc4.t0, hc4.t1, t14]
      · rintro _ T' S' ⟨rfl, rfl, hk⟩
        simp only
        exact after _ T' hk fun T'' S'' h => h
  · simp only [if_true]
    refine m_seq (m_reg ?_)
    rw [reg3_32]
    have hw5 : IntKind.i64.wrap ((5 : Int) + ticks) = 5 + ticks := wrap_i64 (by omega) (by omega)
    have e5 : ((4 : Int) + (ticks + 1) == 5 + ticks) = true := by simp; omega
    simp (decide := true) only [FT.get_set, FT.setL, faS_ptr, nilS_ptr, nilS_func, nilS_yield, pickS_bool, ldS_ptr, list_cells, list_ro, partS_none, lenSl_of, lenStr_of, cvInt_of, aminmax_max, aminmax_min, abin_add, abin_sub, abin_mul, abin_eql, abin_neq, abin_lss, abin_leq, abin_gtr, abin_geq, aunary_not, aextract, Option.some.injEq, Prod.mk.injEq, Value.bool.injEq, exists_eq_left', exists_and_left, and_assoc, decide_eq_true_eq, decide_eq_false_iff_not, if_true, if_false, Nat.zero_add, Nat.add_zero, Option.bind_some, true_and, and_true, forall_const, true_implies, Bool.not_eq_true, Bool.false_eq_true, false_implies, ite_self, Nat.mul_one, hc4.t5]
    refine now10 hc4.clk ?_
    simp (decide := true) only [FT.get_set, FT.setL, faS_ptr, nilS_ptr, nilS_func, nilS_yield, pickS_bool, ldS_ptr, list_cells, list_ro, partS_none, lenSl_of, lenStr_of, cvInt_of, aminmax_max, aminmax_min, abin_add, abin_sub, abin_mul, abin_eql, abin_neq, abin_lss, abin_leq, abin_gtr, abin_geq, aunary_not, aextract, Option.some.injEq, Prod.mk.injEq, Value.bool.injEq, exists_eq_left', exists_and_left, and_assoc, decide_eq_true_eq, decide_eq_false_iff_not, if_true, if_false, Nat.zero_add, Nat.add_zero, Option.bind_some, true_and, and_true, forall_const, true_implies, Bool.not_eq_true, Bool.false_eq_true, false_implies, ite_self, Nat.mul_one, hc4.t1, hw5, e5]
    exact m_ret (fin _ _ (by simp [FT.get_set, FT.setL, faS_ptr, nilS_ptr, nilS_func, nilS_yield, pickS_bool, ldS_ptr, list_cells, list_ro, partS_none, lenSl_of, lenStr_of, cvInt_of, aminmax_max, aminmax_min, abin_add, abin_sub, abin_mul, abin_eql, abin_neq, abin_lss, abin_leq, abin_gtr, abin_geq, aunary_not, aextract]))

/-! ### the arguments' reading -/
theorem under3 : Try.prog.underlying 3 = some (.int .i64) := by kernel_rfl
theorem under5 : Try.prog.underlying 5 = some (.int .u8) := by kernel_rfl
theorem under22 : Try.prog.underlying 22 = some (.slice 5) := by kernel_rfl
theorem cells5 : Try.prog.cellsOf 5 = 1 := by kernel_rfl

section
variable {H : Type} {S : MS}
theorem rd_int {t : TypeId} {k : IntKind} (hu : Try.prog.underlying t = some (.int k)) {cs : List Value} {d : DataW H} (h : RdS Try.prog S t cs d) : ∃ n, cs = [.int k n] ∧ (Lit.int k n).wf = true := by
  cases h with
  | int hu' hw => rw [hu] at hu'; cases hu'; exact ⟨_, rfl, hw⟩
  | bool hu' => rw [hu] at hu'; cases hu'
  | string hu' _ => rw [hu] at hu'; cases hu'
  | sliceNil hu' => rw [hu] at hu'; cases hu'
  | sliceZ hu' => rw [hu] at hu'; cases hu'
  | slice vs hu' => rw [hu] at hu'; cases hu'
  | struct hu' => rw [hu] at hu'; cases hu'
theorem list_of_each {α : Type} {p : Nat → α → Prop} : ∀ n, (∀ k, k < n → ∃ x, p k x) → ∃ xs : List α, xs.length = n ∧ ∀ (k : Nat) x, xs[k]? = some x → p k x := by
  intro n
  induction n with
  | zero => intro _; exact ⟨[], rfl, fun k x h => by cases h⟩
  | succ n ih =>
    intro h
    obtain ⟨xs, h1, h2⟩ := ih fun k hk => h k (by omega)
    obtain ⟨x, hx⟩ := h n (by omega)
    refine ⟨xs ++ [x], by simp [h1], fun k y hy => ?_⟩
    rw [List.getElem?_append] at hy
    split at hy
    · exact h2 k y hy
    · rename_i hk
      have : k = n := by have := (List.getElem?_eq_some_iff.1 hy).1; simp at this; omega
      subst this
      simp [h1] at hy
      subst hy; exact hx
theorem flat_one : ∀ (vs : List (List Value)) (k : Nat) (v : Value), (∀ y ∈ vs, y.length = 1) → vs[k]? = some [v] → vs.flatten[k]? = some v := by
  intro vs
  induction vs with
  | nil => intro k v _ h; cases h
  | cons x vs ih =>
    intro k v hn h
    have hx := hn x (by simp)
    match x, hx with
    | [a], _ =>
      cases k with
      | zero => cases h; rfl
      | succ k => exact ih k v (fun y hy => hn y (by simp [hy])) h
theorem wf_u8 {n : Int} (h : (Lit.int .u8 n).wf = true) : 0 ≤ n ∧ n < 256 := by
  simp [Lit.wf, IntKind.min, IntKind.max, IntKind.signed, IntKind.bits] at h
  omega
theorem rd_by {cs : List Value} {d : DataW H} (h : RdS Try.prog S 22 cs d) : ∃ dv ds, cs = [dv] ∧ By S dv ds := by
  cases h with
  | bool hu' => rw [under22] at hu'; cases hu'
  | int hu' => rw [under22] at hu'; cases hu'
  | string hu' _ => rw [under22] at hu'; cases hu'
  | struct hu' => rw [under22] at hu'; cases hu'
  | sliceNil hu' => exact ⟨_, [], rfl, rfl, (fun d hd => by cases hd), fun h => absurd rfl h⟩
  | sliceZ hu' => exact ⟨_, [], rfl, rfl, (fun d hd => by cases hd), fun h => absurd rfl h⟩
  | slice vs hu hcap hlen hmax he hs hvs hb hsz hr =>
    rename_i e b len cap elems spare
    rw [under22] at hu; cases hu
    rw [cells5] at hsz
    have hst : ∀ k, k < len → ∃ n : Nat, vs[k]? = some [.int .u8 n] ∧ n < 256 := by
      intro k hk
      have hkv : k < vs.length := by omega
      have hkd : k < (elems ++ spare).length := by rw [List.length_append]; omega
      obtain ⟨n, h1, h2⟩ := rd_int under5 (hr k _ _ (List.getElem?_eq_getElem hkv) (List.getElem?_eq_getElem hkd))
      obtain ⟨h3, h4⟩ := wf_u8 h2
      refine ⟨n.toNat, by rw [List.getElem?_eq_getElem hkv, h1, Int.toNat_of_nonneg h3], by omega⟩
    obtain ⟨xs, hxl, hx⟩ := list_of_each (p := fun k (n : Nat) => vs[k]? = some [.int .u8 n] ∧ n < 256) len hst
    refine ⟨_, xs, rfl, by rw [lenSl_of, hxl], fun n hn => ?_, fun _ => ⟨b, cap, vs.flatten, by rw [hxl], list_of hb, fun k x hk => flat_one vs k _ hsz (hx k x hk).1⟩⟩
    obtain ⟨k, hk⟩ := List.getElem?_of_mem hn
    exact (hx k n hk).2

/-- whatever reads so: the law tells true -/
theorem run3 (ds : List (DataW H)) (vs : List Value) (h : RdSAll Try.prog S [22, 3] vs ds) : CallM Try.prog O 3 vs S fun v _ => v = .bool true := by
  have two : ∃ a b d1 d2, vs = [a, b] ∧ ds = [d1, d2] := by
    rcases vs with _ | ⟨a, _ | ⟨b, _ | ⟨c, vs⟩⟩⟩ <;> rcases ds with _ | ⟨d1, _ | ⟨d2, _ | ⟨d3, ds⟩⟩⟩ <;> first | exact h.elim | exact h.2.elim | exact h.2.2.elim | exact ⟨_, _, _, _, rfl, rfl⟩
  obtain ⟨a, b, d1, d2, rfl, rfl⟩ := two
  obtain ⟨⟨cs, r1, k1⟩, ⟨cs2, r2, k2⟩, _⟩ := h
  obtain ⟨dv, bs, rfl, hb⟩ := rd_by r1
  obtain ⟨n2, rfl, _⟩ := rd_int under3 r2
  rcases k1 with ⟨⟨fs, hf⟩, _⟩ | ⟨_, e1⟩
  · rw [under22] at hf; cases hf
  rcases k2 with ⟨⟨fs, hf⟩, _⟩ | ⟨_, e2⟩
  · rw [under3] at hf; cases hf
  cases e1; cases e2
  exact law3 n2 hb
end
end Go.Proofs.Ythkmkfgfabjhnaa

