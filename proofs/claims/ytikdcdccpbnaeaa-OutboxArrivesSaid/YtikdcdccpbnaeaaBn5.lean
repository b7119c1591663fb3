/-
  The walk through the outbox's code: what its functions do to memory, part Bn5. Nothing is asked.
-/
import Derived.Test.YtikdcdccpbnaeaaBn4
set_option linter.all false
namespace Go.Proofs.Ytikdcdccpbnaeaa
open Go Go.Ag
set_option linter.unusedVariables false
set_option maxRecDepth 100000

/-! ### all is sent once more -/
def RDI (S0 : MS) (ts : List ByteArray) (tv : Value) (b r mb a : Nat) (wv v : Value) (m : Nat) (T : FT) (S : MS) : Prop :=
  ∃ (k : Nat) (G : List Em), k + m = (ab a (wl ts 0)).length ∧ AC S0 ts b r mb a wv G S ∧ (∃ B, SlF emL 2 S B v (ab a (wl ts 0)) ∧ Av v mb) ∧ (∀ p ∈ (ab a (wl ts 0)).take k, has G p.1) ∧ T.get 0 = tv ∧ T.get 5 = .pointer (some ⟨b, 0, none⟩) ∧ T.get 6 = .pointer (some ⟨r, 0, none⟩) ∧ T.get 8 = .int .i64 G.length ∧ T.get 11 = v ∧ T.get 12 = .int .i64 k

theorem rest3 {S0 S : MS} {ts : List ByteArray} {tv : Value} {b r mb a : Nat} {wv v : Value} {T : FT} (hn : ts.length ≤ 40) (hs : RDI S0 ts tv b r mb a wv v (ab a (wl ts 0)).length T S) :
    MWp Try.prog O 160 (.block 4 (.loop (.seq (.seq (.region 23 (ro 3 23) false) (.cond (.tmp 100) .skip (.exit 4))) (.seq (.block 5 (.seq (.region 25 (ro 3 25) false) (.cond (.tmp 108) (.region 26 (ro 3 26) false) .skip))) (.region 24 (ro 3 24) false))))) T S
      (fun x T' S' => x = .normal ∧ RDI S0 ts tv b r mb a wv v 0 T' S') := by
  refine m_block (m_loop (fun m T S' => RDI S0 ts tv b r mb a wv v m T S') _ hs ?_)
  clear hs
  rintro m T S1 ⟨k, G, hk, hc, ⟨B, hv, hvm⟩, hdone, t0, t5, t6, t8, t11, t12⟩
  have hl : (ab a (wl ts 0)).length ≤ 40 := Nat.le_trans (List.length_filter_le _ _) (by rw [wl_len]; omega)
  refine m_wf fun wf1 => m_seq (m_seq (m_reg ?_))
  rw [reg3_23]
  simp (decide := true) only [FT.get_set, FT.setL, faS_ptr, nilS_ptr, nilS_func, nilS_yield, pickS_bool, ldS_ptr, list_cells, list_ro, partS_none, lenSl_of, lenStr_of, cvInt_of, aminmax_max, aminmax_min, abin_add, abin_sub, abin_mul, abin_eql, abin_neq, abin_lss, abin_leq, abin_gtr, abin_geq, aunary_not, aextract, Option.some.injEq, Prod.mk.injEq, Value.bool.injEq, exists_eq_left', exists_and_left, and_assoc, decide_eq_true_eq, decide_eq_false_iff_not, if_true, if_false, Nat.zero_add, Nat.add_zero, Option.bind_some, true_and, and_true, forall_const, true_implies, Bool.not_eq_true, Bool.false_eq_true, false_implies, ite_self, Nat.mul_one, t11, t12, hv.lenSl]
  refine m_cond (t := decide ((k : Int) < (ab a (wl ts 0)).length)) (by simp [evalT, FT.get_set, FT.setL, faS_ptr, nilS_ptr, nilS_func, nilS_yield, pickS_bool, ldS_ptr, list_cells, list_ro, partS_none, lenSl_of, lenStr_of, cvInt_of, aminmax_max, aminmax_min, abin_add, abin_sub, abin_mul, abin_eql, abin_neq, abin_lss, abin_leq, abin_gtr, abin_geq, aunary_not, aextract]) (fun hlt => m_skip ?_) (fun hlt => m_exit ?_)
  · have hlt : k < (ab a (wl ts 0)).length := by have := of_decide_eq_true hlt; omega
    simp only
    obtain ⟨q, hq⟩ : ∃ q, (ab a (wl ts 0))[k]? = some q := ⟨_, List.getElem?_eq_getElem hlt⟩
    have hqm : q ∈ wl ts 0 := (mem_ab.1 (List.mem_of_getElem? hq)).1
    obtain ⟨qb, _, q1, q2⟩ := hv.at em_len hq
    refine m_seq (m_block (m_seq (m_reg ?_)))
    rw [reg3_25]
    simp (decide := true) only [FT.get_set, FT.setL, faS_ptr, nilS_ptr, nilS_func, nilS_yield, pickS_bool, ldS_ptr, list_cells, list_ro, partS_none, lenSl_of, lenStr_of, cvInt_of, aminmax_max, aminmax_min, abin_add, abin_sub, abin_mul, abin_eql, abin_neq, abin_lss, abin_leq, abin_gtr, abin_geq, aunary_not, aextract, Option.some.injEq, Prod.mk.injEq, Value.bool.injEq, exists_eq_left', exists_and_left, and_assoc, decide_eq_true_eq, decide_eq_false_iff_not, if_true, if_false, Nat.zero_add, Nat.add_zero, Option.bind_some, true_and, and_true, forall_const, true_implies, Bool.not_eq_true, Bool.false_eq_true, false_implies, ite_self, Nat.mul_one, t6, t11, t12, q1, q2 S1 rfl]
    obtain ⟨qk, qt⟩ := q
    have hqle := wl_le hqm
    simp only at hqle
    have hwk : IntKind.i64.wrap ((k : Int) + 1) = ((k + 1 : Nat) : Int) := by rw [wrap_i64 (by omega) (by omega)]; rfl
    have close : ∀ (T' : FT) (S3 : MS) (G' : List Em), AC S0 ts b r mb a wv G' S3 → SlF emL 2 S3 B v (ab a (wl ts 0)) → (∀ p ∈ (ab a (wl ts 0)).take (k + 1), has G' p.1) → T'.get 0 = tv → T'.get 5 = .pointer (some ⟨b, 0, none⟩) → T'.get 6 = .pointer (some ⟨r, 0, none⟩) → T'.get 8 = .int .i64 G'.length → T'.get 11 = v → T'.get 12 = .int .i64 k →
        MWp Try.prog O 160 (.region 24 (ro 3 24) false) T' S3 (fun x T3 S5 => x = .normal ∧ ∃ k', k' < m ∧ RDI S0 ts tv b r mb a wv v k' T3 S5) := by
      intro T' S3 G' h hv' hd g0 g5 g6 g8 g11 g12
      refine m_reg ?_
      rw [reg3_24]
      simp (decide := true) only [FT.get_set, FT.setL, faS_ptr, nilS_ptr, nilS_func, nilS_yield, pickS_bool, ldS_ptr, list_cells, list_ro, partS_none, lenSl_of, lenStr_of, cvInt_of, aminmax_max, aminmax_min, abin_add, abin_sub, abin_mul, abin_eql, abin_neq, abin_lss, abin_leq, abin_gtr, abin_geq, aunary_not, aextract, Option.some.injEq, Prod.mk.injEq, Value.bool.injEq, exists_eq_left', exists_and_left, and_assoc, decide_eq_true_eq, decide_eq_false_iff_not, if_true, if_false, Nat.zero_add, Nat.add_zero, Option.bind_some, true_and, and_true, forall_const, true_implies, Bool.not_eq_true, Bool.false_eq_true, false_implies, ite_self, Nat.mul_one, g12, hwk]
      exact ⟨m - 1, by omega, k + 1, G', by omega, h, ⟨B, hv', hvm⟩, hd, by simp [FT.get_set, FT.setL, faS_ptr, nilS_ptr, nilS_func, nilS_yield, pickS_bool, ldS_ptr, list_cells, list_ro, partS_none, lenSl_of, lenStr_of, cvInt_of, aminmax_max, aminmax_min, abin_add, abin_sub, abin_mul, abin_eql, abin_neq, abin_lss, abin_leq, abin_gtr, abin_geq, aunary_not, aextract, g0], by simp [FT.get_set, FT.setL, faS_ptr, nilS_ptr, nilS_func, nilS_yield, pickS_bool, ldS_ptr, list_cells, list_ro, partS_none, lenSl_of, lenStr_of, cvInt_of, aminmax_max, aminmax_min, abin_add, abin_sub, abin_mul, abin_eql, abin_neq, abin_lss, abin_leq, abin_gtr, abin_geq, aunary_not, aextract, g5], by simp [FT.get_set, FT.setL, faS_ptr, nilS_ptr, nilS_func, nilS_yield, pickS_bool, ldS_ptr, list_cells, list_ro, partS_none, lenSl_of, lenStr_of, cvInt_of, aminmax_max, aminmax_min, abin_add, abin_sub, abin_mul, abin_eql, abin_neq, abin_lss, abin_leq, abin_gtr, abin_geq, aunary_not, aextract, g6], by simp [FT.get_set, FT.setL, faS_ptr, nilS_ptr, nilS_func, nilS_yield, pickS_bool, ldS_ptr, list_cells, list_ro, partS_none, lenSl_of, lenStr_of, cvInt_of, aminmax_max, aminmax_min, abin_add, abin_sub, abin_mul, abin_eql, abin_neq, abin_lss, abin_leq, abin_gtr, abin_geq, aunary_not, aextract, g8], by simp [FT.get_set, FT.setL, faS_ptr, nilS_ptr, nilS_func, nilS_yield, pickS_bool, ldS_ptr, list_cells, list_ro, partS_none, lenSl_of, lenStr_of, cvInt_of, aminmax_max, aminmax_min, abin_add, abin_sub, abin_mul, abin_eql, abin_neq, abin_lss, abin_leq, abin_gtr, abin_geq, aunary_not, aextract, g11], by simp [FT.get_set, FT.setL, faS_ptr, nilS_ptr, nilS_func, nilS_yield, pickS_bool, ldS_ptr, list_cells, list_ro, partS_none, lenSl_of, lenStr_of, cvInt_of, aminmax_max, aminmax_min, abin_add, abin_sub, abin_mul, abin_eql, abin_neq, abin_lss, abin_leq, abin_gtr, abin_geq, aunary_not, aextract]⟩
    have htake : ∀ p ∈ (ab a (wl ts 0)).take (k + 1), p ∈ (ab a (wl ts 0)).take k ∨ p = (qk, qt) := by
      intro p hp
      rw [List.take_add_one, hq] at hp
      rcases List.mem_append.1 hp with hp | hp
      · exact .inl hp
      · simp at hp; exact .inr hp
    refine take10 (k := qk) (t := qt) hc.rcv (by omega) (fun hno S3 f3 h3 => ?_) (fun hyn hy1 S3 hn3 hk3 h3 => ?_)
    · have hc3 := hc.keep wf1 f3
      refine m_cond (t := false) (by simp [evalT, FT.get_set, FT.setL, faS_ptr, nilS_ptr, nilS_func, nilS_yield, pickS_bool, ldS_ptr, list_cells, list_ro, partS_none, lenSl_of, lenStr_of, cvInt_of, aminmax_max, aminmax_min, abin_add, abin_sub, abin_mul, abin_eql, abin_neq, abin_lss, abin_leq, abin_gtr, abin_geq, aunary_not, aextract]) (fun h => by cases h) (fun _ => m_skip ?_)
      simp only
      refine MWp.mono (close _ S3 G hc3 (hv.keep fun x y hx => f3.2 x (wf1 x y hx)) (fun p hp => ?_) (by simp [FT.get_set, FT.setL, faS_ptr, nilS_ptr, nilS_func, nilS_yield, pickS_bool, ldS_ptr, list_cells, list_ro, partS_none, lenSl_of, lenStr_of, cvInt_of, aminmax_max, aminmax_min, abin_add, abin_sub, abin_mul, abin_eql, abin_neq, abin_lss, abin_leq, abin_gtr, abin_geq, aunary_not, aextract, t0]) (by simp [FT.get_set, FT.setL, faS_ptr, nilS_ptr, nilS_func, nilS_yield, pickS_bool, ldS_ptr, list_cells, list_ro, partS_none, lenSl_of, lenStr_of, cvInt_of, aminmax_max, aminmax_min, abin_add, abin_sub, abin_mul, abin_eql, abin_neq, abin_lss, abin_leq, abin_gtr, abin_geq, aunary_not, aextract, t5]) (by simp [FT.get_set, FT.setL, faS_ptr, nilS_ptr, nilS_func, nilS_yield, pickS_bool, ldS_ptr, list_cells, list_ro, partS_none, lenSl_of, lenStr_of, cvInt_of, aminmax_max, aminmax_min, abin_add, abin_sub, abin_mul, abin_eql, abin_neq, abin_lss, abin_leq, abin_gtr, abin_geq, aunary_not, aextract, t6]) (by simp [FT.get_set, FT.setL, faS_ptr, nilS_ptr, nilS_func, nilS_yield, pickS_bool, ldS_ptr, list_cells, list_ro, partS_none, lenSl_of, lenStr_of, cvInt_of, aminmax_max, aminmax_min, abin_add, abin_sub, abin_mul, abin_eql, abin_neq, abin_lss, abin_leq, abin_gtr, abin_geq, aunary_not, aextract, t8]) (by simp [FT.get_set, FT.setL, faS_ptr, nilS_ptr, nilS_func, nilS_yield, pickS_bool, ldS_ptr, list_cells, list_ro, partS_none, lenSl_of, lenStr_of, cvInt_of, aminmax_max, aminmax_min, abin_add, abin_sub, abin_mul, abin_eql, abin_neq, abin_lss, abin_leq, abin_gtr, abin_geq, aunary_not, aextract, t11]) (by simp [FT.get_set, FT.setL, faS_ptr, nilS_ptr, nilS_func, nilS_yield, pickS_bool, ldS_ptr, list_cells, list_ro, partS_none, lenSl_of, lenStr_of, cvInt_of, aminmax_max, aminmax_min, abin_add, abin_sub, abin_mul, abin_eql, abin_neq, abin_lss, abin_leq, abin_gtr, abin_geq, aunary_not, aextract, t12])) (by rintro _ T5 S5 ⟨rfl, hk⟩; exact hk)
      rcases htake p hp with hp | rfl
      · exact hdone p hp
      · exact hno.resolve_right (by omega)
    · have hc3 := hc.took wf1 hn3 hk3 h3 hqm
      have hgl := hc3.glen
      rw [List.length_append, List.length_singleton] at hgl
      have hwg : IntKind.i64.wrap ((G.length : Int) + 1) = (((G ++ [(qk, qt)]).length : Nat) : Int) := by rw [wrap_i64 (by omega) (by omega), List.length_append]; rfl
      refine m_cond (t := true) (by simp [evalT, FT.get_set, FT.setL, faS_ptr, nilS_ptr, nilS_func, nilS_yield, pickS_bool, ldS_ptr, list_cells, list_ro, partS_none, lenSl_of, lenStr_of, cvInt_of, aminmax_max, aminmax_min, abin_add, abin_sub, abin_mul, abin_eql, abin_neq, abin_lss, abin_leq, abin_gtr, abin_geq, aunary_not, aextract]) (fun _ => m_reg ?_) (fun h => by cases h)
      rw [reg3_26]
      simp (decide := true) only [FT.get_set, FT.setL, faS_ptr, nilS_ptr, nilS_func, nilS_yield, pickS_bool, ldS_ptr, list_cells, list_ro, partS_none, lenSl_of, lenStr_of, cvInt_of, aminmax_max, aminmax_min, abin_add, abin_sub, abin_mul, abin_eql, abin_neq, abin_lss, abin_leq, abin_gtr, abin_geq, aunary_not, aextract, Option.some.injEq, Prod.mk.injEq, Value.bool.injEq, exists_eq_left', exists_and_left, and_assoc, decide_eq_true_eq, decide_eq_false_iff_not, if_true, if_false, Nat.zero_add, Nat.add_zero, Option.bind_some, true_and, and_true, forall_const, true_implies, Bool.not_eq_true, Bool.false_eq_true, false_implies, ite_self, Nat.mul_one, t8, hwg]
      refine MWp.mono (close _ S3 (G ++ [(qk, qt)]) hc3 (hv.keep1 fun y k' hny hy => hk3 y (wf1 y k' hy) (fun e => by subst e; exact hny hvm)) (fun p hp => ?_) (by simp [FT.get_set, FT.setL, faS_ptr, nilS_ptr, nilS_func, nilS_yield, pickS_bool, ldS_ptr, list_cells, list_ro, partS_none, lenSl_of, lenStr_of, cvInt_of, aminmax_max, aminmax_min, abin_add, abin_sub, abin_mul, abin_eql, abin_neq, abin_lss, abin_leq, abin_gtr, abin_geq, aunary_not, aextract, t0]) (by simp [FT.get_set, FT.setL, faS_ptr, nilS_ptr, nilS_func, nilS_yield, pickS_bool, ldS_ptr, list_cells, list_ro, partS_none, lenSl_of, lenStr_of, cvInt_of, aminmax_max, aminmax_min, abin_add, abin_sub, abin_mul, abin_eql, abin_neq, abin_lss, abin_leq, abin_gtr, abin_geq, aunary_not, aextract, t5]) (by simp [FT.get_set, FT.setL, faS_ptr, nilS_ptr, nilS_func, nilS_yield, pickS_bool, ldS_ptr, list_cells, list_ro, partS_none, lenSl_of, lenStr_of, cvInt_of, aminmax_max, aminmax_min, abin_add, abin_sub, abin_mul, abin_eql, abin_neq, abin_lss, abin_leq, abin_gtr, abin_geq, aunary_not, aextract, t6]) (by simp [FT.get_set, FT.setL, faS_ptr, nilS_ptr, nilS_func, nilS_yield, pickS_bool, ldS_ptr, list_cells, list_ro, partS_none, lenSl_of, lenStr_of, cvInt_of, aminmax_max, aminmax_min, abin_add, abin_sub, abin_mul, abin_eql, abin_neq, abin_lss, abin_leq, abin_gtr, abin_geq, aunary_not, aextract]) (by simp [FT.get_set, FT.setL, faS_ptr, nilS_ptr, nilS_func, nilS_yield, pickS_bool, ldS_ptr, list_cells, list_ro, partS_none, lenSl_of, lenStr_of, cvInt_of, aminmax_max, aminmax_min, abin_add, abin_sub, abin_mul, abin_eql, abin_neq, abin_lss, abin_leq, abin_gtr, abin_geq, aunary_not, aextract, t11]) (by simp [FT.get_set, FT.setL, faS_ptr, nilS_ptr, nilS_func, nilS_yield, pickS_bool, ldS_ptr, list_cells, list_ro, partS_none, lenSl_of, lenStr_of, cvInt_of, aminmax_max, aminmax_min, abin_add, abin_sub, abin_mul, abin_eql, abin_neq, abin_lss, abin_leq, abin_gtr, abin_geq, aunary_not, aextract, t12])) (by rintro _ T5 S5 ⟨rfl, hk⟩; exact hk)
      rcases htake p hp with hp | rfl
      · obtain ⟨t, ht⟩ := hdone p hp
        exact ⟨t, List.mem_append_left _ ht⟩
      · exact ⟨qt, by simp⟩
  · have hlt : ¬ k < (ab a (wl ts 0)).length := by have := of_decide_eq_false hlt; omega
    simp only [if_true]
    have H : ∀ T' : FT, T'.get 0 = T.get 0 → T'.get 5 = T.get 5 → T'.get 6 = T.get 6 → T'.get 8 = T.get 8 → T'.get 11 = T.get 11 → T'.get 12 = T.get 12 → RDI S0 ts tv b r mb a wv v 0 T' S1 := fun T' q0 q5 q6 q8 q11 q12 => ⟨k, G, by omega, hc, ⟨B, hv, hvm⟩, hdone, q0.trans t0, q5.trans t5, q6.trans t6, q8.trans t8, q11.trans t11, q12.trans t12⟩
    first
      | exact ⟨rfl, H _ (by simp [FT.get_set, FT.setL, faS_ptr, nilS_ptr, nilS_func, nilS_yield, pickS_bool, ldS_ptr, list_cells, list_ro, partS_none, lenSl_of, lenStr_of, cvInt_of, aminmax_max, aminmax_min, abin_add, abin_sub, abin_mul, abin_eql, abin_neq, abin_lss, abin_leq, abin_gtr, abin_geq, aunary_not, aextract]) (by simp [FT.get_set, FT.setL, faS_ptr, nilS_ptr, nilS_func, nilS_yield, pickS_bool, ldS_ptr, list_cells, list_ro, partS_none, lenSl_of, lenStr_of, cvInt_of, aminmax_max, aminmax_min, abin_add, abin_sub, abin_mul, abin_eql, abin_neq, abin_lss, abin_leq, abin_gtr, abin_geq, aunary_not, aextract]) (by simp [FT.get_set, FT.setL, faS_ptr, nilS_ptr, nilS_func, nilS_yield, pickS_bool, ldS_ptr, list_cells, list_ro, partS_none, lenSl_of, lenStr_of, cvInt_of, aminmax_max, aminmax_min, abin_add, abin_sub, abin_mul, abin_eql, abin_neq, abin_lss, abin_leq, abin_gtr, abin_geq, aunary_not, aextract]) (by simp [FT.get_set, FT.setL, faS_ptr, nilS_ptr, nilS_func, nilS_yield, pickS_bool, ldS_ptr, list_cells, list_ro, partS_none, lenSl_of, lenStr_of, cvInt_of, aminmax_max, aminmax_min, abin_add, abin_sub, abin_mul, abin_eql, abin_neq, abin_lss, abin_leq, abin_gtr, abin_geq, aunary_not, aextract]) (by simp [FT.get_set, FT.setL, faS_ptr, nilS_ptr, nilS_func, nilS_yield, pickS_bool, ldS_ptr, list_cells, list_ro, partS_none, lenSl_of, lenStr_of, cvInt_of, aminmax_max, aminmax_min, abin_add, abin_sub, abin_mul, abin_eql, abin_neq, abin_lss, abin_leq, abin_gtr, abin_geq, aunary_not, aextract, t11]) (by simp [FT.get_set, FT.setL, faS_ptr, nilS_ptr, nilS_func, nilS_yield, pickS_bool, ldS_ptr, list_cells, list_ro, partS_none, lenSl_of, lenStr_of, cvInt_of, aminmax_max, aminmax_min, abin_add, abin_sub, abin_mul, abin_eql, abin_neq, abin_lss, abin_leq, abin_gtr, abin_geq, aunary_not, aextract, t12])⟩
      | exact ⟨trivial, H _ (by simp [FT.get_set, FT.setL, faS_ptr, nilS_ptr, nilS_func, nilS_yield, pickS_bool, ldS_ptr, list_cells, list_ro, partS_none, lenSl_of, lenStr_of, cvInt_of, aminmax_max, aminmax_min, abin_add, abin_sub, abin_mul, abin_eql, abin_neq, abin_lss, abin_leq, abin_gtr, abin_geq, aunary_not, aextract]) (by simp [FT.get_set, FT.setL, faS_ptr, nilS_ptr, nilS_func, nilS_yield, pickS_bool, ldS_ptr, list_cells, list_ro, partS_none, lenSl_of, lenStr_of, cvInt_of, aminmax_max, aminmax_min, abin_add, abin_sub, abin_mul, abin_eql, abin_neq, abin_lss, abin_leq, abin_gtr, abin_geq, aunary_not, aextract]) (by simp [FT.get_set, FT.setL, faS_ptr, nilS_ptr, nilS_func, nilS_yield, pickS_bool, ldS_ptr, list_cells, list_ro, partS_none, lenSl_of, lenStr_of, cvInt_of, aminmax_max, aminmax_min, abin_add, abin_sub, abin_mul, abin_eql, abin_neq, abin_lss, abin_leq, abin_gtr, abin_geq, aunary_not, aextract]) (by simp [FT.get_set, FT.setL, faS_ptr, nilS_ptr, nilS_func, nilS_yield, pickS_bool, ldS_ptr, list_cells, list_ro, partS_none, lenSl_of, lenStr_of, cvInt_of, aminmax_max, aminmax_min, abin_add, abin_sub, abin_mul, abin_eql, abin_neq, abin_lss, abin_leq, abin_gtr, abin_geq, aunary_not, aextract]) (by simp [FT.get_set, FT.setL, faS_ptr, nilS_ptr, nilS_func, nilS_yield, pickS_bool, ldS_ptr, list_cells, list_ro, partS_none, lenSl_of, lenStr_of, cvInt_of, aminmax_max, aminmax_min, abin_add, abin_sub, abin_mul, abin_eql, abin_neq, abin_lss, abin_leq, abin_gtr, abin_geq, aunary_not, aextract, t11]) (by simp [FT.get_set, FT.setL, faS_ptr, nilS_ptr, nilS_func, nilS_yield, pickS_bool, ldS_ptr, list_cells, list_ro, partS_none, lenSl_of, lenStr_of, cvInt_of, aminmax_max, aminmax_min, abin_add, abin_sub, abin_mul, abin_eql, abin_neq, abin_lss, abin_leq, abin_gtr, abin_geq, aunary_not, aextract, t12])⟩
      | exact H _ (by simp [FT.get_set, FT.setL, faS_ptr, nilS_ptr, nilS_func, nilS_yield, pickS_bool, ldS_ptr, list_cells, list_ro, partS_none, lenSl_of, lenStr_of, cvInt_of, aminmax_max, aminmax_min, abin_add, abin_sub, abin_mul, abin_eql, abin_neq, abin_lss, abin_leq, abin_gtr, abin_geq, aunary_not, aextract]) (by simp [FT.get_set, FT.setL, faS_ptr, nilS_ptr, nilS_func, nilS_yield, pickS_bool, ldS_ptr, list_cells, list_ro, partS_none, lenSl_of, lenStr_of, cvInt_of, aminmax_max, aminmax_min, abin_add, abin_sub, abin_mul, abin_eql, abin_neq, abin_lss, abin_leq, abin_gtr, abin_geq, aunary_not, aextract]) (by simp [FT.get_set, FT.setL, faS_ptr, nilS_ptr, nilS_func, nilS_yield, pickS_bool, ldS_ptr, list_cells, list_ro, partS_none, lenSl_of, lenStr_of, cvInt_of, aminmax_max, aminmax_min, abin_add, abin_sub, abin_mul, abin_eql, abin_neq, abin_lss, abin_leq, abin_gtr, abin_geq, aunary_not, aextract]) (by simp [FT.get_set, FT.setL, faS_ptr, nilS_ptr, nilS_func, nilS_yield, pickS_bool, ldS_ptr, list_cells, list_ro, partS_none, lenSl_of, lenStr_of, cvInt_of, aminmax_max, aminmax_min, abin_add, abin_sub, abin_mul, abin_eql, abin_neq, abin_lss, abin_leq, abin_gtr, abin_geq, aunary_not, aextract]) (by simp [FT.get_set, FT.setL, faS_ptr, nilS_ptr, nilS_func, nilS_yield, pickS_bool, ldS_ptr, list_cells, list_ro, partS_none, lenSl_of, lenStr_of, cvInt_of, aminmax_max, aminmax_min, abin_add, abin_sub, abin_mul, abin_eql, abin_neq, abin_lss, abin_leq, abin_gtr, abin_geq, aunary_not, aextract, t11]) (by simp [FT.get_set, FT.setL, faS_ptr, nilS_ptr, nilS_func, nilS_yield, pickS_bool, ldS_ptr, list_cells, list_ro, partS_none, lenSl_of, lenStr_of, cvInt_of, aminmax_max, aminmax_min, abin_add, abin_sub, abin_mul, abin_eql, abin_neq, abin_lss, abin_leq, abin_gtr, abin_geq, aunary_not, aextract, t12])

theorem nodup_nums (n : Nat) : ((List.range n).map fun i => ((i + 1 : Nat) : Int)).Nodup := by
  show List.Pairwise _ _
  rw [List.pairwise_map]
  exact List.pairwise_lt_range.imp fun {i j} h e => by omega
/-- then all is there -/
theorem all_there {S0 S : MS} {ts : List ByteArray} {b r mb a : Nat} {wv : Value} {G : List Em} (h : AC S0 ts b r mb a wv G S) (hd : ∀ p ∈ ab a (wl ts 0), has G p.1) : (∀ j : Nat, 1 ≤ j → j ≤ ts.length → has G j) ∧ G.length = ts.length ∧ ¬ has G ((ts.length + 1 : Nat) : Int) := by
  have h1 : ∀ j : Nat, 1 ≤ j → j ≤ ts.length → has G j := by
    intro j hj1 hj2
    rcases Nat.lt_or_ge a j with h3 | h3
    · obtain ⟨t, ht⟩ : ∃ t, ts[j - 1]? = some t := ⟨_, List.getElem?_eq_getElem (by omega)⟩
      have hm : (((j : Nat) : Int), t) ∈ wl ts 0 := wl_mem.2 ⟨j - 1, t, ht, by rw [show j - 1 + 1 = j by omega]⟩
      exact hd _ (mem_ab.2 ⟨hm, by simp only; omega⟩)
    · exact h.upto j hj1 h3
  refine ⟨h1, ?_, ?_⟩
  · refine Nat.le_antisymm h.glen ?_
    have h2 : ((List.range ts.length).map fun i => ((i + 1 : Nat) : Int)).length ≤ (G.map (·.1)).length := by
      refine List.Nodup.length_le_of_subset ?_ fun x hx => ?_
      · exact nodup_nums _
      · obtain ⟨i, hi, rfl⟩ := List.mem_map.1 hx
        obtain ⟨t, ht⟩ := h1 (i + 1) (by omega) (by have := List.mem_range.1 hi; omega)
        exact List.mem_map.2 ⟨_, ht, rfl⟩
    simpa using h2
  · rintro ⟨t, ht⟩
    have := (wl_le (h.sub _ ht)).2
    simp only at this; omega
theorem sorted_all {ts : List ByteArray} {G out : List Em} (hnd : (G.map (·.1)).Nodup) (hsub : ∀ p ∈ G, p ∈ wl ts 0) (hall : ∀ j : Nat, 1 ≤ j → j ≤ ts.length → has G j) (hs : Sorted G out) : out = wl ts 0 := by
  have hperm : (G.map (·.1)).Perm ((List.range ts.length).map fun i => ((i + 1 : Nat) : Int)) := by
    refine (List.perm_ext_iff_of_nodup hnd ?_).2 fun x => ?_
    · exact nodup_nums _
    · constructor
      · intro hx
        obtain ⟨p, hp, rfl⟩ := List.mem_map.1 hx
        have := wl_le (hsub p hp)
        exact List.mem_map.2 ⟨(p.1 - 1).toNat, List.mem_range.2 (by omega), by omega⟩
      · intro hx
        obtain ⟨i, hi, rfl⟩ := List.mem_map.1 hx
        obtain ⟨t, ht⟩ := hall (i + 1) (by omega) (by have := List.mem_range.1 hi; omega)
        exact List.mem_map.2 ⟨_, ht, rfl⟩
  have hkeys : out.map (·.1) = (List.range ts.length).map fun i => ((i + 1 : Nat) : Int) := by
    rw [hs.keys, keysI_ge]
    have e1 := mergeSort_of_perm_i hperm
    refine e1.trans ?_
    refine List.mergeSort_of_pairwise (le := leI) ?_
    rw [List.pairwise_map]
    refine List.pairwise_lt_range.imp fun {i j} h => ?_
    simp only [leI, decide_eq_true_eq]; omega
  apply List.ext_getElem?
  intro i
  rw [wl_at]
  have hki : (out.map (·.1))[i]? = ((List.range ts.length).map fun i => ((i + 1 : Nat) : Int))[i]? := by rw [hkeys]
  rw [List.getElem?_map, List.getElem?_map] at hki
  by_cases hi : i < ts.length
  · rw [List.getElem?_range hi] at hki
    cases ho : out[i]? with
    | none => rw [ho] at hki; cases hki
    | some p =>
      rw [ho] at hki
      simp only [Option.map_some, Option.some.injEq] at hki
      have hp := hsub _ (hs.mem p (List.mem_of_getElem? ho))
      obtain ⟨t, ht⟩ : ∃ t, ts[i]? = some t := ⟨_, List.getElem?_eq_getElem hi⟩
      have hm : (((i + 1 : Nat) : Int), t) ∈ wl ts 0 := wl_mem.2 ⟨i, t, ht, rfl⟩
      obtain ⟨pk, pt⟩ := p
      simp only at hki
      subst hki
      rw [ht, wl_uniq hp hm, Nat.zero_add]; rfl
  · have hl : out.length = ts.length := by
      have := congrArg List.length hkeys
      simpa using this
    rw [List.getElem?_eq_none (by omega), List.getElem?_eq_none (by omega)]; rfl
end Go.Proofs.Ytikdcdccpbnaeaa

