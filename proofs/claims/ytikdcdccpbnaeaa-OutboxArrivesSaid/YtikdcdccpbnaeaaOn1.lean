/-
  The walk through the outbox's code: what its functions do to memory, part On1. Nothing is asked.
-/
import Derived.Test.YtikdcdccpbnaeaaOnW
import Derived.Test.YtikdcdccpbnaeaaOnS
import Derived.Test.YtikdcdccpbnaeaaAg4
import Derived.Test.YtikdcdccpbnaeaaOnG
set_option linter.all false
namespace Go.Proofs.Ytikdcdccpbnaeaa
open Go Go.Ag
set_option linter.unusedVariables false
set_option maxRecDepth 100000

def OK : Known := fun f args => if f = 5 ∧ args = [] then some (.bool true) else none
noncomputable def O : Hook := fun f args => if f = 16 then fun A => sortA 22 args A else hookOf OK f args
theorem O_none {f : FuncId} {args : List Value} (h : f ≠ 5 ∧ f ≠ 16) : O f args = fun _ => none := by
  unfold O
  rw [if_neg h.2]
  exact hookOf_none (by unfold OK; rw [if_neg (fun e => h.1 e.1)])
theorem O_sort (args : List Value) : O 16 args = fun A => sortA 22 args A := by unfold O; rw [if_pos rfl]
theorem O_known : O 5 [] = fun A => some (.bool true, A) := by
  unfold O
  rw [if_neg (by decide)]
  exact hookOf_some (by unfold OK; rw [if_pos ⟨rfl, rfl⟩])
theorem O_ok (h : Knows Try.prog 5 [] (.bool true)) : HookOk Try.prog O := by
  intro f args A v A' hv
  unfold O at hv
  by_cases hf : f = 16
  · rw [if_pos hf] at hv
    refine sortH_ok sortedOk f args A v A' ?_
    unfold sortH
    rw [if_pos hf]
    exact hv
  · rw [if_neg hf] at hv
    refine hookOf_ok (O := OK) (fun f args v h2 => ?_) f args A v A' hv
    unfold OK at h2
    split at h2
    · rename_i e
      obtain ⟨rfl, rfl⟩ := e
      cases h2
      exact h
    · cases h2

/-- what a receiver got -/
abbrev Em := Int × ByteArray
def ge (G : List Em) : List (Value × Value) := G.map fun p => (.int .i64 p.1, .string p.2)
def emL (p : Em) : List Value := [.int .i64 p.1, .string p.2]
theorem em_len (a : Em) : (emL a).length = 2 := rfl
theorem em_one (a : Em) : (emL a).all oneCell = true := rfl
theorem aeq_i64 {P : Program} {t : TypeId} {a b : Int} (d : Nat) (h : P.underlying t = some (.int .i64)) : aeq P (d + 1) t (.int .i64 a) (.int .i64 b) = some (a == b) := by
  unfold aeq
  rw [h]
  rfl
theorem find_none {k : Int} : ∀ {G : List Em} {i : Nat}, (∀ p ∈ G, p.1 ≠ k) → findA Try.prog 3 (.int .i64 k) (ge G) i = some none := by
  intro G
  induction G with
  | nil => intro i _; rfl
  | cons p G ih =>
    intro i h
    have h1 : aeq Try.prog Op.maxDepth 3 (.int .i64 k) (.int .i64 p.1) = some (k == p.1) := by
      exact aeq_i64 9999 Try.underlying3
    show (aeq Try.prog Op.maxDepth 3 (.int .i64 k) (.int .i64 p.1)).bind _ = _
    rw [h1]
    have h2 : (k == p.1) = false := by rw [beq_eq_false_iff_ne]; exact fun e => h p (List.mem_cons_self ..) e.symm
    simp only [Option.bind_some, h2, Bool.false_eq_true, if_false]
    exact ih fun q hq => h q (List.mem_cons_of_mem _ hq)
theorem find_some {k : Int} {t : ByteArray} : ∀ {G : List Em} {i : Nat}, (G.map (·.1)).Nodup → (k, t) ∈ G → ∃ j, findA Try.prog 3 (.int .i64 k) (ge G) i = some (some (j, .string t)) := by
  intro G
  induction G with
  | nil => intro i _ h; cases h
  | cons p G ih =>
    intro i hn hm
    have h1 : aeq Try.prog Op.maxDepth 3 (.int .i64 k) (.int .i64 p.1) = some (k == p.1) := by
      exact aeq_i64 9999 Try.underlying3
    have e0 : findA Try.prog 3 (.int .i64 k) (ge (p :: G)) i = if (k == p.1) = true then some (some (i, .string p.2)) else findA Try.prog 3 (.int .i64 k) (ge G) (i + 1) := by
      show (aeq Try.prog Op.maxDepth 3 (.int .i64 k) (.int .i64 p.1)).bind _ = _
      rw [h1]
      rfl
    rw [e0]
    rw [List.map_cons, List.nodup_cons] at hn
    rcases List.mem_cons.1 hm with rfl | hm
    · exact ⟨i, by simp⟩
    · have h2 : (k == p.1) = false := by
        rw [beq_eq_false_iff_ne]
        intro e
        exact hn.1 (List.mem_map.2 ⟨_, hm, e⟩)
      rw [h2]
      exact ih hn.2 hm
def has (G : List Em) (k : Int) : Prop := ∃ t, (k, t) ∈ G
theorem has_not {G : List Em} {k : Int} (h : ¬ has G k) : ∀ p ∈ G, p.1 ≠ k := fun p hp e => h ⟨p.2, by rw [← e]; exact hp⟩

/-- a receiver -/
structure IsR (S : MS) (r mb : Nat) (G : List Em) : Prop where
  rc : S.m r = some (.cells [.map (some mb)] 0)
  mp : S.m mb = some (.map (ge G))
  ne : r ≠ mb
  nd : (G.map (·.1)).Nodup
  pos : ∀ p ∈ G, 1 ≤ p.1 ∧ p.1 ≤ 1000
theorem IsR.keep {S S' : MS} {r mb : Nat} {G : List Em} (h : IsR S r mb G) (hr : S'.m r = S.m r) (hm : S'.m mb = S.m mb) : IsR S' r mb G := ⟨hr.trans h.rc, hm.trans h.mp, h.ne, h.nd, h.pos⟩
theorem IsR.old {S S' : MS} {r mb : Nat} {G : List Em} (h : IsR S r mb G) (wf : S.WF) (f : Old S S') : IsR S' r mb G := h.keep (f.2 _ (wf _ _ h.rc)) (f.2 _ (wf _ _ h.mp))

theorem lk_yes {S : MS} {r mb : Nat} {G : List Em} (h : IsR S r mb G) {k : Int} {t : ByteArray} (hm : (k, t) ∈ G) (c : Bool) : lkS Try.prog 3 (.string ⟨⟨[]⟩⟩) S (.map (some mb)) (.int .i64 k) c = some (if c then .tuple #[.string t, .bool true] else .string t) := by
  obtain ⟨j, hj⟩ := find_some (i := 0) h.nd hm
  have e : entriesS S (.map (some mb)) = some (ge G) := by unfold entriesS; simp only [h.mp]
  unfold lkS
  rw [e]
  simp only [Option.bind_some, hj]
theorem lk_no {S : MS} {r mb : Nat} {G : List Em} (h : IsR S r mb G) {k : Int} (hm : ¬ has G k) : lkS Try.prog 3 (.string ⟨⟨[]⟩⟩) S (.map (some mb)) (.int .i64 k) true = some (.tuple #[.string ⟨⟨[]⟩⟩, .bool false]) := by
  have hj := find_none (i := 0) (has_not hm)
  have e : entriesS S (.map (some mb)) = some (ge G) := by unfold entriesS; simp only [h.mp]
  unfold lkS
  rw [e]
  simp only [Option.bind_some, hj, if_true]
theorem mu_new {S : MS} {r mb : Nat} {G : List Em} (h : IsR S r mb G) {k : Int} {t : ByteArray} (hm : ¬ has G k) : muS Try.prog 3 S (.map (some mb)) (.int .i64 k) (.string t) = some (S.set mb (.map (ge (G ++ [(k, t)])))) := by
  have hj := find_none (i := 0) (has_not hm)
  unfold muS
  simp only [h.mp, hj, Option.bind_some]
  unfold ge
  rw [List.map_append]; rfl

theorem new7 {S : MS} {Q : Value → MS → Prop} (hq : ∀ r mb S', Old S S' → S.n ≤ r → S.n ≤ mb → r < S'.n → mb < S'.n → IsR S' r mb [] → Q (.pointer (some ⟨r, 0, none⟩)) S') : CallM Try.prog O 7 [] S Q := by
  refine callM_body (fnIs is7 body7 res7) (O_none (by decide)) (by simp) ?_
  refine m_seq (m_reg ?_)
  rw [reg7_0]
  refine m_seq (m_reg ?_)
  rw [reg7_1]
  have e1 : bdS (fun i => [(0, 1)][i]?) [.map none] [(0, .map (some S.n))] = some (.agg #[.map (some S.n)]) := rfl
  refine ⟨_, _, rfl, .agg #[.map (some S.n)], e1, ?_⟩
  refine m_ret ?_
  simp [resM, FT.get_set, FT.setL, faS_ptr, nilS_ptr, nilS_func, nilS_yield, pickS_bool, ldS_ptr, list_cells, list_ro, partS_none, lenSl_of, lenStr_of, cvInt_of, aminmax_max, aminmax_min, abin_add, abin_sub, abin_mul, abin_eql, abin_neq, abin_lss, abin_leq, abin_gtr, abin_geq, aunary_not, aextract, oneOrTuple, ptrTo]
  have ec : (Value.cells (.agg #[.map (some S.n)])).toList = [.map (some S.n)] := rfl
  have en : (S.push (.map [])).n = S.n + 1 := rfl
  have hm0 : (S.push (.map [])).m S.n = some (.map []) := by show (if S.n = S.n then _ else _) = _; rw [if_pos rfl]
  rw [ec]
  refine hq (S.n + 1) S.n _ ⟨by simp only [fresh_n, en]; omega, fun y hy => ?_⟩ (by omega) (Nat.le_refl _) (by simp only [fresh_n, en]; omega) (by simp only [fresh_n, en]; omega) ⟨?_, ?_, by omega, List.nodup_nil, fun p hp => by cases hp⟩
  · rw [fresh_old _ _ _ (by rw [en]; omega)]
    show (if y = S.n then _ else S.m y) = _
    rw [if_neg (by omega)]
  · have := fresh_at (S.push (.map [])) [.map (some S.n)] 0
    exact this
  · rw [fresh_old _ _ _ (by rw [en]; omega)]
    exact hm0

/-- Take -/
theorem take10 {S : MS} {r mb : Nat} {G : List Em} {k : Int} {t : ByteArray} (h : IsR S r mb G) (hk : k ≤ 1000) {Q : Value → MS → Prop}
    (hno : (has G k ∨ k < 1) → ∀ S', Old S S' → IsR S' r mb G → Q (.bool false) S')
    (hyes : ¬ has G k → 1 ≤ k → ∀ S', S.n ≤ S'.n → (∀ y, y < S.n → y ≠ mb → S'.m y = S.m y) → IsR S' r mb (G ++ [(k, t)]) → Q (.bool true) S') :
    CallM Try.prog O 10 [.pointer (some ⟨r, 0, none⟩), .agg #[.int .i64 k, .string t]] S Q := by
  refine callM_wf fun wf => ?_
  refine callM_body (fnIs is10 body10 res10) (O_none (by decide)) (by simp) ?_
  refine m_seq (m_reg ?_)
  rw [reg10_0]
  have hcells : (Value.cells (.agg #[.int .i64 k, .string t])).toList = [.int .i64 k, .string t] := rfl
  simp (decide := true) only [FT.get_set, FT.setL, faS_ptr, nilS_ptr, nilS_func, nilS_yield, pickS_bool, ldS_ptr, list_cells, list_ro, partS_none, lenSl_of, lenStr_of, cvInt_of, aminmax_max, aminmax_min, abin_add, abin_sub, abin_mul, abin_eql, abin_neq, abin_lss, abin_leq, abin_gtr, abin_geq, aunary_not, aextract, Option.some.injEq, Prod.mk.injEq, Value.bool.injEq, exists_eq_left', exists_and_left, and_assoc, decide_eq_true_eq, decide_eq_false_iff_not, if_true, if_false, Nat.zero_add, Nat.add_zero, Option.bind_some, true_and, and_true, forall_const, true_implies, Bool.not_eq_true, Bool.false_eq_true, false_implies, ite_self, Nat.mul_one, hcells, ptrTo]
  have f1 := old_fresh S [.int .i64 k, .string t] 0
  have hp := fresh_at S [.int .i64 k, .string t] 0
  have h1 := h.old wf f1
  generalize S.fresh [.int .i64 k, .string t] 0 = S1 at *
  refine m_seq (m_seq (m_draw ?_))
  rw [reg10_1]
  have aex0 : ∀ (u v : Value), aextract (.tuple #[u, v]) 0 = some u := fun _ _ => rfl
  have aex1 : ∀ (u v : Value), aextract (.tuple #[u, v]) 1 = some v := fun _ _ => rfl
  by_cases hh : has G k
  · obtain ⟨t0, ht0⟩ := id hh
    simp (decide := true) only [FT.get_set, FT.setL, faS_ptr, nilS_ptr, nilS_func, nilS_yield, pickS_bool, ldS_ptr, list_cells, list_ro, partS_none, lenSl_of, lenStr_of, cvInt_of, aminmax_max, aminmax_min, abin_add, abin_sub, abin_mul, abin_eql, abin_neq, abin_lss, abin_leq, abin_gtr, abin_geq, aunary_not, aextract, Option.some.injEq, Prod.mk.injEq, Value.bool.injEq, exists_eq_left', exists_and_left, and_assoc, decide_eq_true_eq, decide_eq_false_iff_not, if_true, if_false, Nat.zero_add, Nat.add_zero, Option.bind_some, true_and, and_true, forall_const, true_implies, Bool.not_eq_true, Bool.false_eq_true, false_implies, ite_self, Nat.mul_one, list_of h1.rc, list_of hp, List.getElem?_cons_zero, List.getElem?_cons_succ, lk_yes h1 ht0]
    refine m_seq (m_reg ?_)
    rw [reg10_2]
    simp (decide := true) only [FT.get_set, FT.setL, faS_ptr, nilS_ptr, nilS_func, nilS_yield, pickS_bool, ldS_ptr, list_cells, list_ro, partS_none, lenSl_of, lenStr_of, cvInt_of, aminmax_max, aminmax_min, abin_add, abin_sub, abin_mul, abin_eql, abin_neq, abin_lss, abin_leq, abin_gtr, abin_geq, aunary_not, aextract, Option.some.injEq, Prod.mk.injEq, Value.bool.injEq, exists_eq_left', exists_and_left, and_assoc, decide_eq_true_eq, decide_eq_false_iff_not, if_true, if_false, Nat.zero_add, Nat.add_zero, Option.bind_some, true_and, and_true, forall_const, true_implies, Bool.not_eq_true, Bool.false_eq_true, false_implies, ite_self, Nat.mul_one, ]
    refine m_cond (t := true) (by simp [evalT, FT.get_set, FT.setL, faS_ptr, nilS_ptr, nilS_func, nilS_yield, pickS_bool, ldS_ptr, list_cells, list_ro, partS_none, lenSl_of, lenStr_of, cvInt_of, aminmax_max, aminmax_min, abin_add, abin_sub, abin_mul, abin_eql, abin_neq, abin_lss, abin_leq, abin_gtr, abin_geq, aunary_not, aextract]) (fun _ => ?_) (fun h => by cases h)
    refine m_seq (m_reg ?_)
    rw [reg10_3]
    refine m_ret ?_
    simp [resM, FT.get_set, FT.setL, faS_ptr, nilS_ptr, nilS_func, nilS_yield, pickS_bool, ldS_ptr, list_cells, list_ro, partS_none, lenSl_of, lenStr_of, cvInt_of, aminmax_max, aminmax_min, abin_add, abin_sub, abin_mul, abin_eql, abin_neq, abin_lss, abin_leq, abin_gtr, abin_geq, aunary_not, aextract, oneOrTuple]
    exact hno (.inl hh) _ f1 h1
  · simp (decide := true) only [FT.get_set, FT.setL, faS_ptr, nilS_ptr, nilS_func, nilS_yield, pickS_bool, ldS_ptr, list_cells, list_ro, partS_none, lenSl_of, lenStr_of, cvInt_of, aminmax_max, aminmax_min, abin_add, abin_sub, abin_mul, abin_eql, abin_neq, abin_lss, abin_leq, abin_gtr, abin_geq, aunary_not, aextract, Option.some.injEq, Prod.mk.injEq, Value.bool.injEq, exists_eq_left', exists_and_left, and_assoc, decide_eq_true_eq, decide_eq_false_iff_not, if_true, if_false, Nat.zero_add, Nat.add_zero, Option.bind_some, true_and, and_true, forall_const, true_implies, Bool.not_eq_true, Bool.false_eq_true, false_implies, ite_self, Nat.mul_one, list_of h1.rc, list_of hp, List.getElem?_cons_zero, List.getElem?_cons_succ, lk_no h1 hh]
    refine m_seq (m_reg ?_)
    rw [reg10_2]
    by_cases hk1 : k < 1
    · have e1 : decide (k < 1) = true := decide_eq_true hk1
      simp (decide := true) only [FT.get_set, FT.setL, faS_ptr, nilS_ptr, nilS_func, nilS_yield, pickS_bool, ldS_ptr, list_cells, list_ro, partS_none, lenSl_of, lenStr_of, cvInt_of, aminmax_max, aminmax_min, abin_add, abin_sub, abin_mul, abin_eql, abin_neq, abin_lss, abin_leq, abin_gtr, abin_geq, aunary_not, aextract, Option.some.injEq, Prod.mk.injEq, Value.bool.injEq, exists_eq_left', exists_and_left, and_assoc, decide_eq_true_eq, decide_eq_false_iff_not, if_true, if_false, Nat.zero_add, Nat.add_zero, Option.bind_some, true_and, and_true, forall_const, true_implies, Bool.not_eq_true, Bool.false_eq_true, false_implies, ite_self, Nat.mul_one, list_of hp, List.getElem?_cons_zero, e1]
      refine m_cond (t := true) (by simp [evalT, FT.get_set, FT.setL, faS_ptr, nilS_ptr, nilS_func, nilS_yield, pickS_bool, ldS_ptr, list_cells, list_ro, partS_none, lenSl_of, lenStr_of, cvInt_of, aminmax_max, aminmax_min, abin_add, abin_sub, abin_mul, abin_eql, abin_neq, abin_lss, abin_leq, abin_gtr, abin_geq, aunary_not, aextract]) (fun _ => ?_) (fun h => by cases h)
      refine m_seq (m_reg ?_)
      rw [reg10_3]
      refine m_ret ?_
      simp [resM, FT.get_set, FT.setL, faS_ptr, nilS_ptr, nilS_func, nilS_yield, pickS_bool, ldS_ptr, list_cells, list_ro, partS_none, lenSl_of, lenStr_of, cvInt_of, aminmax_max, aminmax_min, abin_add, abin_sub, abin_mul, abin_eql, abin_neq, abin_lss, abin_leq, abin_gtr, abin_geq, aunary_not, aextract, oneOrTuple]
      exact hno (.inr hk1) _ f1 h1
    · have e1 : decide (k < 1) = false := decide_eq_false hk1
      simp (decide := true) only [FT.get_set, FT.setL, faS_ptr, nilS_ptr, nilS_func, nilS_yield, pickS_bool, ldS_ptr, list_cells, list_ro, partS_none, lenSl_of, lenStr_of, cvInt_of, aminmax_max, aminmax_min, abin_add, abin_sub, abin_mul, abin_eql, abin_neq, abin_lss, abin_leq, abin_gtr, abin_geq, aunary_not, aextract, Option.some.injEq, Prod.mk.injEq, Value.bool.injEq, exists_eq_left', exists_and_left, and_assoc, decide_eq_true_eq, decide_eq_false_iff_not, if_true, if_false, Nat.zero_add, Nat.add_zero, Option.bind_some, true_and, and_true, forall_const, true_implies, Bool.not_eq_true, Bool.false_eq_true, false_implies, ite_self, Nat.mul_one, list_of hp, List.getElem?_cons_zero, e1]
      refine m_cond (t := false) (by simp [evalT, FT.get_set, FT.setL, faS_ptr, nilS_ptr, nilS_func, nilS_yield, pickS_bool, ldS_ptr, list_cells, list_ro, partS_none, lenSl_of, lenStr_of, cvInt_of, aminmax_max, aminmax_min, abin_add, abin_sub, abin_mul, abin_eql, abin_neq, abin_lss, abin_leq, abin_gtr, abin_geq, aunary_not, aextract]) (fun h => by cases h) (fun _ => m_skip ?_)
      simp only
      refine m_seq (m_draw ?_)
      rw [reg10_4]
      simp (decide := true) only [FT.get_set, FT.setL, faS_ptr, nilS_ptr, nilS_func, nilS_yield, pickS_bool, ldS_ptr, list_cells, list_ro, partS_none, lenSl_of, lenStr_of, cvInt_of, aminmax_max, aminmax_min, abin_add, abin_sub, abin_mul, abin_eql, abin_neq, abin_lss, abin_leq, abin_gtr, abin_geq, aunary_not, aextract, Option.some.injEq, Prod.mk.injEq, Value.bool.injEq, exists_eq_left', exists_and_left, and_assoc, decide_eq_true_eq, decide_eq_false_iff_not, if_true, if_false, Nat.zero_add, Nat.add_zero, Option.bind_some, true_and, and_true, forall_const, true_implies, Bool.not_eq_true, Bool.false_eq_true, false_implies, ite_self, Nat.mul_one, list_of h1.rc, list_of hp, List.getElem?_cons_zero, List.getElem?_cons_succ, mu_new h1 hh, Option.map_some]
      refine m_seq (m_reg ?_)
      rw [reg10_5]
      refine m_ret ?_
      simp [resM, FT.get_set, FT.setL, faS_ptr, nilS_ptr, nilS_func, nilS_yield, pickS_bool, ldS_ptr, list_cells, list_ro, partS_none, lenSl_of, lenStr_of, cvInt_of, aminmax_max, aminmax_min, abin_add, abin_sub, abin_mul, abin_eql, abin_neq, abin_lss, abin_leq, abin_gtr, abin_geq, aunary_not, aextract, oneOrTuple]
      refine hyes hh (by omega) _ (by have := f1.1; exact this) (fun y hy hne => by rw [set_m, if_neg hne]; exact f1.2 y hy) ⟨by rw [set_m, if_neg h1.ne]; exact h1.rc, by rw [set_m, if_pos rfl], h1.ne, ?_, fun p hp => ?_⟩
      · rw [List.map_append, List.nodup_append]
        refine ⟨h1.nd, by simp, fun a ha b hb => ?_⟩
        simp at hb
        subst hb
        obtain ⟨p, hp1, hp2⟩ := List.mem_map.1 ha
        rw [← hp2]
        exact has_not hh p hp1
      · rcases List.mem_append.1 hp with hp | hp
        · exact h1.pos p hp
        · simp at hp; subst hp; exact ⟨by simp only; omega, hk⟩

def LI12 (S0 : MS) (r : Nat) (G : List Em) (m : Nat) (T : FT) (S : MS) : Prop :=
  ∃ n : Nat, n + m = 1001 ∧ S = S0 ∧ (∀ j : Nat, 1 ≤ j → j ≤ n → has G j) ∧ T.get 0 = .pointer (some ⟨r, 0, none⟩) ∧ T.get 3 = .int .i64 n

/-- Last -/
theorem last12 {S : MS} {r mb : Nat} {G : List Em} (h : IsR S r mb G) {Q : Value → MS → Prop}
    (hq : ∀ n : Nat, (∀ j : Nat, 1 ≤ j → j ≤ n → has G j) → ¬ has G ((n + 1 : Nat) : Int) → Q (.int .i64 n) S) : CallM Try.prog O 12 [.pointer (some ⟨r, 0, none⟩)] S Q := by
  refine callM_body (fnIs is12 body12 res12) (O_none (by decide)) (by simp) ?_
  refine m_seq (m_reg ?_)
  rw [reg12_0]
  refine m_seq (m_reg ?_)
  rw [reg12_1]
  unfold blk12_0
  refine m_block (m_loop (fun m T S' => LI12 S r G m T S') 1001 ⟨0, rfl, rfl, fun j h1 h2 => by omega, by simp [FT.get_set, FT.setL, faS_ptr, nilS_ptr, nilS_func, nilS_yield, pickS_bool, ldS_ptr, list_cells, list_ro, partS_none, lenSl_of, lenStr_of, cvInt_of, aminmax_max, aminmax_min, abin_add, abin_sub, abin_mul, abin_eql, abin_neq, abin_lss, abin_leq, abin_gtr, abin_geq, aunary_not, aextract], by simp [FT.get_set, FT.setL, faS_ptr, nilS_ptr, nilS_func, nilS_yield, pickS_bool, ldS_ptr, list_cells, list_ro, partS_none, lenSl_of, lenStr_of, cvInt_of, aminmax_max, aminmax_min, abin_add, abin_sub, abin_mul, abin_eql, abin_neq, abin_lss, abin_leq, abin_gtr, abin_geq, aunary_not, aextract]⟩ ?_)
  rintro m T S1 ⟨n, hn, rfl, hall, t0, t3⟩
  have hn1 : n ≤ 1000 := by
    rcases Nat.eq_zero_or_pos n with h0 | h0
    · omega
    · obtain ⟨t, ht⟩ := hall n h0 (Nat.le_refl _)
      have := (h.pos _ ht).2
      simp only at this; omega
  have aex0 : ∀ (u v : Value), aextract (.tuple #[u, v]) 0 = some u := fun _ _ => rfl
  have aex1 : ∀ (u v : Value), aextract (.tuple #[u, v]) 1 = some v := fun _ _ => rfl
  have hw : IntKind.i64.wrap ((n : Int) + 1) = ((n + 1 : Nat) : Int) := by rw [wrap_i64 (by omega) (by omega)]; rfl
  unfold blk12_1
  refine m_block (m_seq (m_seq (m_reg ?_)))
  rw [reg12_2]
  by_cases hh : has G ((n + 1 : Nat) : Int)
  · obtain ⟨tx, htx⟩ := id hh
    simp (decide := true) only [FT.get_set, FT.setL, faS_ptr, nilS_ptr, nilS_func, nilS_yield, pickS_bool, ldS_ptr, list_cells, list_ro, partS_none, lenSl_of, lenStr_of, cvInt_of, aminmax_max, aminmax_min, abin_add, abin_sub, abin_mul, abin_eql, abin_neq, abin_lss, abin_leq, abin_gtr, abin_geq, aunary_not, aextract, Option.some.injEq, Prod.mk.injEq, Value.bool.injEq, exists_eq_left', exists_and_left, and_assoc, decide_eq_true_eq, decide_eq_false_iff_not, if_true, if_false, Nat.zero_add, Nat.add_zero, Option.bind_some, true_and, and_true, forall_const, true_implies, Bool.not_eq_true, Bool.false_eq_true, false_implies, ite_self, Nat.mul_one, t0, t3, list_of h.rc, List.getElem?_cons_zero, List.getElem?_cons_succ, hw, lk_yes h htx]
    refine m_seq (m_reg ?_)
    rw [reg12_3]
    simp (decide := true) only [FT.get_set, FT.setL, faS_ptr, nilS_ptr, nilS_func, nilS_yield, pickS_bool, ldS_ptr, list_cells, list_ro, partS_none, lenSl_of, lenStr_of, cvInt_of, aminmax_max, aminmax_min, abin_add, abin_sub, abin_mul, abin_eql, abin_neq, abin_lss, abin_leq, abin_gtr, abin_geq, aunary_not, aextract, Option.some.injEq, Prod.mk.injEq, Value.bool.injEq, exists_eq_left', exists_and_left, and_assoc, decide_eq_true_eq, decide_eq_false_iff_not, if_true, if_false, Nat.zero_add, Nat.add_zero, Option.bind_some, true_and, and_true, forall_const, true_implies, Bool.not_eq_true, Bool.false_eq_true, false_implies, ite_self, Nat.mul_one, Bool.not_true]
    refine m_cond (t := false) (by simp [evalT, FT.get_set, FT.setL, faS_ptr, nilS_ptr, nilS_func, nilS_yield, pickS_bool, ldS_ptr, list_cells, list_ro, partS_none, lenSl_of, lenStr_of, cvInt_of, aminmax_max, aminmax_min, abin_add, abin_sub, abin_mul, abin_eql, abin_neq, abin_lss, abin_leq, abin_gtr, abin_geq, aunary_not, aextract]) (fun h => by cases h) (fun _ => m_skip ?_)
    simp only
    refine m_reg ?_
    rw [reg12_5]
    simp (decide := true) only [FT.get_set, FT.setL, faS_ptr, nilS_ptr, nilS_func, nilS_yield, pickS_bool, ldS_ptr, list_cells, list_ro, partS_none, lenSl_of, lenStr_of, cvInt_of, aminmax_max, aminmax_min, abin_add, abin_sub, abin_mul, abin_eql, abin_neq, abin_lss, abin_leq, abin_gtr, abin_geq, aunary_not, aextract, Option.some.injEq, Prod.mk.injEq, Value.bool.injEq, exists_eq_left', exists_and_left, and_assoc, decide_eq_true_eq, decide_eq_false_iff_not, if_true, if_false, Nat.zero_add, Nat.add_zero, Option.bind_some, true_and, and_true, forall_const, true_implies, Bool.not_eq_true, Bool.false_eq_true, false_implies, ite_self, Nat.mul_one, t3, hw]
    refine ⟨m - 1, by omega, n + 1, by omega, rfl, fun j h1 h2 => ?_, by simp [FT.get_set, FT.setL, faS_ptr, nilS_ptr, nilS_func, nilS_yield, pickS_bool, ldS_ptr, list_cells, list_ro, partS_none, lenSl_of, lenStr_of, cvInt_of, aminmax_max, aminmax_min, abin_add, abin_sub, abin_mul, abin_eql, abin_neq, abin_lss, abin_leq, abin_gtr, abin_geq, aunary_not, aextract, t0], by simp [FT.get_set, FT.setL, faS_ptr, nilS_ptr, nilS_func, nilS_yield, pickS_bool, ldS_ptr, list_cells, list_ro, partS_none, lenSl_of, lenStr_of, cvInt_of, aminmax_max, aminmax_min, abin_add, abin_sub, abin_mul, abin_eql, abin_neq, abin_lss, abin_leq, abin_gtr, abin_geq, aunary_not, aextract]⟩
    rcases Nat.lt_or_ge n j with h3 | h3
    · have : j = n + 1 := by omega
      subst this; exact hh
    · exact hall j h1 h3
  · simp (decide := true) only [FT.get_set, FT.setL, faS_ptr, nilS_ptr, nilS_func, nilS_yield, pickS_bool, ldS_ptr, list_cells, list_ro, partS_none, lenSl_of, lenStr_of, cvInt_of, aminmax_max, aminmax_min, abin_add, abin_sub, abin_mul, abin_eql, abin_neq, abin_lss, abin_leq, abin_gtr, abin_geq, aunary_not, aextract, Option.some.injEq, Prod.mk.injEq, Value.bool.injEq, exists_eq_left', exists_and_left, and_assoc, decide_eq_true_eq, decide_eq_false_iff_not, if_true, if_false, Nat.zero_add, Nat.add_zero, Option.bind_some, true_and, and_true, forall_const, true_implies, Bool.not_eq_true, Bool.false_eq_true, false_implies, ite_self, Nat.mul_one, t0, t3, list_of h.rc, List.getElem?_cons_zero, List.getElem?_cons_succ, hw, lk_no h hh]
    refine m_seq (m_reg ?_)
    rw [reg12_3]
    simp (decide := true) only [FT.get_set, FT.setL, faS_ptr, nilS_ptr, nilS_func, nilS_yield, pickS_bool, ldS_ptr, list_cells, list_ro, partS_none, lenSl_of, lenStr_of, cvInt_of, aminmax_max, aminmax_min, abin_add, abin_sub, abin_mul, abin_eql, abin_neq, abin_lss, abin_leq, abin_gtr, abin_geq, aunary_not, aextract, Option.some.injEq, Prod.mk.injEq, Value.bool.injEq, exists_eq_left', exists_and_left, and_assoc, decide_eq_true_eq, decide_eq_false_iff_not, if_true, if_false, Nat.zero_add, Nat.add_zero, Option.bind_some, true_and, and_true, forall_const, true_implies, Bool.not_eq_true, Bool.false_eq_true, false_implies, ite_self, Nat.mul_one, Bool.not_false]
    refine m_cond (t := true) (by simp [evalT, FT.get_set, FT.setL, faS_ptr, nilS_ptr, nilS_func, nilS_yield, pickS_bool, ldS_ptr, list_cells, list_ro, partS_none, lenSl_of, lenStr_of, cvInt_of, aminmax_max, aminmax_min, abin_add, abin_sub, abin_mul, abin_eql, abin_neq, abin_lss, abin_leq, abin_gtr, abin_geq, aunary_not, aextract]) (fun _ => ?_) (fun h => by cases h)
    refine m_seq (m_reg ?_)
    rw [reg12_4]
    simp (decide := true) only [FT.get_set, FT.setL, faS_ptr, nilS_ptr, nilS_func, nilS_yield, pickS_bool, ldS_ptr, list_cells, list_ro, partS_none, lenSl_of, lenStr_of, cvInt_of, aminmax_max, aminmax_min, abin_add, abin_sub, abin_mul, abin_eql, abin_neq, abin_lss, abin_leq, abin_gtr, abin_geq, aunary_not, aextract, Option.some.injEq, Prod.mk.injEq, Value.bool.injEq, exists_eq_left', exists_and_left, and_assoc, decide_eq_true_eq, decide_eq_false_iff_not, if_true, if_false, Nat.zero_add, Nat.add_zero, Option.bind_some, true_and, and_true, forall_const, true_implies, Bool.not_eq_true, Bool.false_eq_true, false_implies, ite_self, Nat.mul_one, t3]
    refine m_ret ?_
    simp [resM, FT.get_set, FT.setL, faS_ptr, nilS_ptr, nilS_func, nilS_yield, pickS_bool, ldS_ptr, list_cells, list_ro, partS_none, lenSl_of, lenStr_of, cvInt_of, aminmax_max, aminmax_min, abin_add, abin_sub, abin_mul, abin_eql, abin_neq, abin_lss, abin_leq, abin_gtr, abin_geq, aunary_not, aextract, oneOrTuple]
    exact hq n hall hh

theorem keys17 {S : MS} {mb : Nat} {Q : Value → MS → Prop} (hq : Q (.func (.func 22) #[] #[.pointer (some ⟨S.n, 0, none⟩)]) (S.fresh [.map (some mb)] 0)) : CallM Try.prog O 17 [.map (some mb)] S Q := by
  refine callM_body (fnIs is17 body17 res17) (O_none (by decide)) (by simp) ?_
  refine m_seq (m_reg ?_)
  rw [reg17_0]
  have hcells : (Value.cells (.map (some mb))).toList = [.map (some mb)] := rfl
  simp (decide := true) only [FT.get_set, FT.setL, faS_ptr, nilS_ptr, nilS_func, nilS_yield, pickS_bool, ldS_ptr, list_cells, list_ro, partS_none, lenSl_of, lenStr_of, cvInt_of, aminmax_max, aminmax_min, abin_add, abin_sub, abin_mul, abin_eql, abin_neq, abin_lss, abin_leq, abin_gtr, abin_geq, aunary_not, aextract, Option.some.injEq, Prod.mk.injEq, Value.bool.injEq, exists_eq_left', exists_and_left, and_assoc, decide_eq_true_eq, decide_eq_false_iff_not, if_true, if_false, Nat.zero_add, Nat.add_zero, Option.bind_some, true_and, and_true, forall_const, true_implies, Bool.not_eq_true, Bool.false_eq_true, false_implies, ite_self, Nat.mul_one, hcells, ptrTo]
  refine m_seq (m_reg ?_)
  rw [reg17_1]
  refine m_ret ?_
  simp [resM, FT.get_set, FT.setL, faS_ptr, nilS_ptr, nilS_func, nilS_yield, pickS_bool, ldS_ptr, list_cells, list_ro, partS_none, lenSl_of, lenStr_of, cvInt_of, aminmax_max, aminmax_min, abin_add, abin_sub, abin_mul, abin_eql, abin_neq, abin_lss, abin_leq, abin_gtr, abin_geq, aunary_not, aextract, oneOrTuple]
  exact hq
end Go.Proofs.Ytikdcdccpbnaeaa

