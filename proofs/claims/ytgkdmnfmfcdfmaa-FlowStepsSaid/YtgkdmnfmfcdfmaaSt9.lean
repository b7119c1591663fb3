/-
  The walk through the code that goes through instructions, part 9: what its functions do to memory. Nothing is asked.
-/
import Derived.Test.YtgkdmnfmfcdfmaaSt8
set_option linter.all false
namespace Go.Proofs.Ytgkdmnfmfcdfmaa
open Go Go.Ag
set_option linter.unusedVariables false
set_option maxRecDepth 100000

/-- the queue: k of wk are looked at -/
def QJ (os : List Op5) (S0 : MS) (fb ob : Nat) (rr : Int) (ov : Value) (m k : Nat) (T : FT) (S : MS) : Prop :=
  ∃ ms wk, Vis os ms (wk.drop k) ∧ k ≤ wk.length ∧ wk.length + 2 * un ms ≤ 2 * os.length + 1 ∧ 3 * un ms + (wk.length - k) ≤ m ∧ Sl S (ob + 1) (T.get 7) wk ∧ S.m ob = some (.cells (ms.map .bool) 1) ∧ ob + 1 ≤ S.n ∧ S.m fb = some (.cells [.int .i64 rr, ov] 0) ∧ (∀ x, x < S0.n → S.m x = S0.m x) ∧
  T.get 1 = .pointer (some ⟨fb, 0, none⟩) ∧ T.get 6 = .slice (some ⟨ob, 0, none⟩) os.length os.length
def QI (os : List Op5) (S0 : MS) (fb ob : Nat) (rr : Int) (ov : Value) (m : Nat) (T : FT) (S : MS) : Prop := ∃ k : Nat, QJ os S0 fb ob rr ov m k T S ∧ T.get 8 = .int .i64 k

theorem queue15 {S0 S : MS} {fb ob : Nat} {rr : Int} {ov : Value} {os : List Op5} {T : FT} (hg : Good os) (hn : os.length ≤ 2500) (h0 : os.length ≠ 0) (ho : Ops S0 ov os) (wf0 : S0.WF) (hS0 : S0.n ≤ ob) (hfo : fb < ob) (hs : QI os S0 fb ob rr ov (3 * os.length + 1) T S) :
    MWp Try.prog O 110 blk15_2 T S (fun x T' S' => x = .normal ∧ (∃ ms, Vis os ms [] ∧ S'.m ob = some (.cells (ms.map .bool) 1)) ∧ T'.get 6 = .slice (some ⟨ob, 0, none⟩) os.length os.length ∧ S0.n ≤ S'.n ∧ ∀ x, x < S0.n → S'.m x = S0.m x) := by
  unfold blk15_2
  refine m_block (m_loop (fun m T S' => QI os S0 fb ob rr ov m T S') _ hs ?_)
  clear hs
  rintro m T S1 ⟨k, ⟨ms, wk, hv, hk, hwl, hm, hw, hob, hon, hfb, hold, t1, t6⟩, t8⟩
  have ho1 := ho.keep wf0 hold
  refine m_seq (m_seq (m_reg ?_))
  rw [reg15_12]
  simp (decide := true) only [FT.get_set, FT.setL, faS_ptr, nilS_ptr, nilS_func, nilS_yield, pickS_bool, ldS_ptr, list_cells, list_ro, partS_none, lenSl_of, lenStr_of, cvInt_of, aminmax_max, aminmax_min, abin_add, abin_sub, abin_mul, abin_eql, abin_neq, abin_lss, abin_leq, abin_gtr, abin_geq, aunary_not, aextract, Option.some.injEq, Prod.mk.injEq, Value.bool.injEq, exists_eq_left', exists_and_left, and_assoc, decide_eq_true_eq, decide_eq_false_iff_not, if_true, if_false, Nat.zero_add, Nat.add_zero, Option.bind_some, true_and, and_true, forall_const, true_implies, Bool.not_eq_true, Bool.false_eq_true, false_implies, ite_self, Nat.mul_one, hw.lenSl, t8]
  refine m_cond (t := decide ((k : Int) < wk.length)) (by simp [evalT, FT.get_set, FT.setL, faS_ptr, nilS_ptr, nilS_func, nilS_yield, pickS_bool, ldS_ptr, list_cells, list_ro, partS_none, lenSl_of, lenStr_of, cvInt_of, aminmax_max, aminmax_min, abin_add, abin_sub, abin_mul, abin_eql, abin_neq, abin_lss, abin_leq, abin_gtr, abin_geq, aunary_not, aextract]) (fun hlt => ?_) (fun hlt => ?_)
  · have hlt : k < wk.length := by have := of_decide_eq_true hlt; omega
    refine m_skip ?_
    simp only
    obtain ⟨x, hx⟩ : ∃ x, wk[k]? = some x := ⟨_, List.getElem?_eq_getElem hlt⟩
    have hdrop : wk.drop k = x :: wk.drop (k + 1) := by
      rw [List.drop_eq_getElem_cons hlt]
      congr 1
      have := List.getElem?_eq_getElem hlt
      rw [hx] at this; exact (Option.some.inj this).symm
    have hxm : x ∈ wk.drop k := by rw [hdrop]; simp
    obtain ⟨x0, x1, x2⟩ := hv.wait x hxm
    obtain ⟨i, rfl⟩ := Int.eq_ofNat_of_zero_le x0
    have hi : i < os.length := by omega
    have next : ∀ (T : FT) (S : MS) (m' : Nat), m' < m → QJ os S0 fb ob rr ov m' (k + 1) T S → T.get 8 = .int .i64 k → ∀ Q : AExit → FT → MS → Prop, (∀ T' S', (∃ k', k' < m ∧ QI os S0 fb ob rr ov k' T' S') → Q .normal T' S') → MWp Try.prog O 110 (.region 13 (ro 15 13) false) T S Q := by
      rintro T S m' hm' ⟨ms, wk, a1, a2, a3, a4, a5, a6, a7, a8, a9, a10, a11⟩ t8 Q hq
      refine m_reg ?_
      rw [reg15_13]
      simp (decide := true) only [FT.get_set, FT.setL, faS_ptr, nilS_ptr, nilS_func, nilS_yield, pickS_bool, ldS_ptr, list_cells, list_ro, partS_none, lenSl_of, lenStr_of, cvInt_of, aminmax_max, aminmax_min, abin_add, abin_sub, abin_mul, abin_eql, abin_neq, abin_lss, abin_leq, abin_gtr, abin_geq, aunary_not, aextract, Option.some.injEq, Prod.mk.injEq, Value.bool.injEq, exists_eq_left', exists_and_left, and_assoc, decide_eq_true_eq, decide_eq_false_iff_not, if_true, if_false, Nat.zero_add, Nat.add_zero, Option.bind_some, true_and, and_true, forall_const, true_implies, Bool.not_eq_true, Bool.false_eq_true, false_implies, ite_self, Nat.mul_one, t8]
      have hw : IntKind.i64.wrap ((k : Int) + 1) = ((k + 1 : Nat) : Int) := by rw [wrap_i64 (by omega) (by omega)]; rfl
      rw [hw]
      exact hq _ _ ⟨m', hm', k + 1, ⟨ms, wk, a1, a2, a3, a4, by simp [FT.get_set, FT.setL, faS_ptr, nilS_ptr, nilS_func, nilS_yield, pickS_bool, ldS_ptr, list_cells, list_ro, partS_none, lenSl_of, lenStr_of, cvInt_of, aminmax_max, aminmax_min, abin_add, abin_sub, abin_mul, abin_eql, abin_neq, abin_lss, abin_leq, abin_gtr, abin_geq, aunary_not, aextract]; exact a5, a6, a7, a8, a9, by simp [FT.get_set, FT.setL, faS_ptr, nilS_ptr, nilS_func, nilS_yield, pickS_bool, ldS_ptr, list_cells, list_ro, partS_none, lenSl_of, lenStr_of, cvInt_of, aminmax_max, aminmax_min, abin_add, abin_sub, abin_mul, abin_eql, abin_neq, abin_lss, abin_leq, abin_gtr, abin_geq, aunary_not, aextract, a10], by simp [FT.get_set, FT.setL, faS_ptr, nilS_ptr, nilS_func, nilS_yield, pickS_bool, ldS_ptr, list_cells, list_ro, partS_none, lenSl_of, lenStr_of, cvInt_of, aminmax_max, aminmax_min, abin_add, abin_sub, abin_mul, abin_eql, abin_neq, abin_lss, abin_leq, abin_gtr, abin_geq, aunary_not, aextract, a11]⟩, by simp [FT.get_set, FT.setL, faS_ptr, nilS_ptr, nilS_func, nilS_yield, pickS_bool, ldS_ptr, list_cells, list_ro, partS_none, lenSl_of, lenStr_of, cvInt_of, aminmax_max, aminmax_min, abin_add, abin_sub, abin_mul, abin_eql, abin_neq, abin_lss, abin_leq, abin_gtr, abin_geq, aunary_not, aextract]⟩
    refine m_wf fun wf1 => ?_
    unfold blk15_3
    refine m_seq (m_block (m_seq (m_reg ?_)))
    rw [reg15_14]
    obtain ⟨b, hat1, hat2⟩ := hw.at hx
    simp (decide := true) only [FT.get_set, FT.setL, faS_ptr, nilS_ptr, nilS_func, nilS_yield, pickS_bool, ldS_ptr, list_cells, list_ro, partS_none, lenSl_of, lenStr_of, cvInt_of, aminmax_max, aminmax_min, abin_add, abin_sub, abin_mul, abin_eql, abin_neq, abin_lss, abin_leq, abin_gtr, abin_geq, aunary_not, aextract, Option.some.injEq, Prod.mk.injEq, Value.bool.injEq, exists_eq_left', exists_and_left, and_assoc, decide_eq_true_eq, decide_eq_false_iff_not, if_true, if_false, Nat.zero_add, Nat.add_zero, Option.bind_some, true_and, and_true, forall_const, true_implies, Bool.not_eq_true, Bool.false_eq_true, false_implies, ite_self, Nat.mul_one, t8, hat1, hat2]
    refine m_seq (m_seq (m_reg ?_))
    rw [reg15_15]
    obtain ⟨q, hq⟩ : ∃ q, ms[i]? = some q := ⟨_, List.getElem?_eq_getElem (by rw [hv.len]; exact hi)⟩
    have hqm : (ms.map Value.bool)[i]? = some (.bool q) := by rw [List.getElem?_map, hq]; rfl
    simp (decide := true) only [FT.get_set, FT.setL, faS_ptr, nilS_ptr, nilS_func, nilS_yield, pickS_bool, ldS_ptr, list_cells, list_ro, partS_none, lenSl_of, lenStr_of, cvInt_of, aminmax_max, aminmax_min, abin_add, abin_sub, abin_mul, abin_eql, abin_neq, abin_lss, abin_leq, abin_gtr, abin_geq, aunary_not, aextract, Option.some.injEq, Prod.mk.injEq, Value.bool.injEq, exists_eq_left', exists_and_left, and_assoc, decide_eq_true_eq, decide_eq_false_iff_not, if_true, if_false, Nat.zero_add, Nat.add_zero, Option.bind_some, true_and, and_true, forall_const, true_implies, Bool.not_eq_true, Bool.false_eq_true, false_implies, ite_self, Nat.mul_one, t6, iaSS_of (k := .i64) (i := (i : Int)) (by omega) (by omega : (i : Int) < (os.length : Int)), Int.toNat_natCast, list_of hob, hqm]
    refine m_cond (t := q) (by simp [evalT, FT.get_set, FT.setL, faS_ptr, nilS_ptr, nilS_func, nilS_yield, pickS_bool, ldS_ptr, list_cells, list_ro, partS_none, lenSl_of, lenStr_of, cvInt_of, aminmax_max, aminmax_min, abin_add, abin_sub, abin_mul, abin_eql, abin_neq, abin_lss, abin_leq, abin_gtr, abin_geq, aunary_not, aextract]) (fun hqt => ?_) (fun hqf => ?_)
    · refine m_exit ?_
      simp only [if_true]
      subst hqt
      refine next _ _ (m - 1) (by omega) ⟨ms, wk, hv.skip (x := (i : Int)) (by rw [Int.toNat_natCast]; exact hq) (fun y hy => ?_) (fun y hy => by rw [hdrop]; exact List.mem_cons_of_mem _ hy), by omega, hwl, by omega, by simp [FT.get_set, FT.setL, faS_ptr, nilS_ptr, nilS_func, nilS_yield, pickS_bool, ldS_ptr, list_cells, list_ro, partS_none, lenSl_of, lenStr_of, cvInt_of, aminmax_max, aminmax_min, abin_add, abin_sub, abin_mul, abin_eql, abin_neq, abin_lss, abin_leq, abin_gtr, abin_geq, aunary_not, aextract]; exact hw, hob, hon, hfb, hold, by simp [FT.get_set, FT.setL, faS_ptr, nilS_ptr, nilS_func, nilS_yield, pickS_bool, ldS_ptr, list_cells, list_ro, partS_none, lenSl_of, lenStr_of, cvInt_of, aminmax_max, aminmax_min, abin_add, abin_sub, abin_mul, abin_eql, abin_neq, abin_lss, abin_leq, abin_gtr, abin_geq, aunary_not, aextract, t1], by simp [FT.get_set, FT.setL, faS_ptr, nilS_ptr, nilS_func, nilS_yield, pickS_bool, ldS_ptr, list_cells, list_ro, partS_none, lenSl_of, lenStr_of, cvInt_of, aminmax_max, aminmax_min, abin_add, abin_sub, abin_mul, abin_eql, abin_neq, abin_lss, abin_leq, abin_gtr, abin_geq, aunary_not, aextract, t6]⟩ (by simp [FT.get_set, FT.setL, faS_ptr, nilS_ptr, nilS_func, nilS_yield, pickS_bool, ldS_ptr, list_cells, list_ro, partS_none, lenSl_of, lenStr_of, cvInt_of, aminmax_max, aminmax_min, abin_add, abin_sub, abin_mul, abin_eql, abin_neq, abin_lss, abin_leq, abin_gtr, abin_geq, aunary_not, aextract, t8]) _ fun T' S' h => h
      rw [hdrop] at hy
      exact List.mem_cons.1 hy
    · subst hqf
      refine m_skip ?_
      simp only
      refine m_seq (m_reg ?_)
      rw [reg15_16]
      obtain ⟨S2, s1, s2, s3, s4⟩ := st_one (off := i) (v := .bool true) hob (by rw [List.length_map, hv.len]; exact hi) rfl rfl
      simp (decide := true) only [FT.get_set, FT.setL, faS_ptr, nilS_ptr, nilS_func, nilS_yield, pickS_bool, ldS_ptr, list_cells, list_ro, partS_none, lenSl_of, lenStr_of, cvInt_of, aminmax_max, aminmax_min, abin_add, abin_sub, abin_mul, abin_eql, abin_neq, abin_lss, abin_leq, abin_gtr, abin_geq, aunary_not, aextract, Option.some.injEq, Prod.mk.injEq, Value.bool.injEq, exists_eq_left', exists_and_left, and_assoc, decide_eq_true_eq, decide_eq_false_iff_not, if_true, if_false, Nat.zero_add, Nat.add_zero, Option.bind_some, true_and, and_true, forall_const, true_implies, Bool.not_eq_true, Bool.false_eq_true, false_implies, ite_self, Nat.mul_one, t6, iaSS_of (k := .i64) (i := (i : Int)) (by omega) (by omega : (i : Int) < (os.length : Int)), Int.toNat_natCast]
      refine ⟨S2, s1, ?_⟩
      have hset : (ms.map Value.bool).set i (.bool true) = (ms.set i true).map .bool := by rw [List.map_set]
      rw [hset] at s2
      have hw2 : Sl S2 (ob + 1) (T.get 7) wk := by
        generalize T.get 7 = v at hw ⊢
        cases hw with
        | non => exact .non
        | own h1 h2 h3 h4 => exact .own (by rw [s4 _ (by omega)]; exact h1) h2 h3 h4
      have hold2 : ∀ x, x < S0.n → S2.m x = S0.m x := fun x hx => by rw [s4 x (by omega), hold x hx]
      have hfb2 : S2.m fb = some (.cells [.int .i64 rr, ov] 0) := by rw [s4 _ (by omega)]; exact hfb
      have ho2 := ho.keep wf0 hold2
      refine m_wf fun wf2 => ?_
      obtain ⟨o, hoo⟩ : ∃ o, os[i]? = some o := ⟨_, List.getElem?_eq_getElem hi⟩
      obtain ⟨p, hp1, hp2⟩ := ho2.at hoo
      refine m_seq (m_reg ?_)
      rw [reg15_17]
      simp (decide := true) only [FT.get_set, FT.setL, faS_ptr, nilS_ptr, nilS_func, nilS_yield, pickS_bool, ldS_ptr, list_cells, list_ro, partS_none, lenSl_of, lenStr_of, cvInt_of, aminmax_max, aminmax_min, abin_add, abin_sub, abin_mul, abin_eql, abin_neq, abin_lss, abin_leq, abin_gtr, abin_geq, aunary_not, aextract, Option.some.injEq, Prod.mk.injEq, Value.bool.injEq, exists_eq_left', exists_and_left, and_assoc, decide_eq_true_eq, decide_eq_false_iff_not, if_true, if_false, Nat.zero_add, Nat.add_zero, Option.bind_some, true_and, and_true, forall_const, true_implies, Bool.not_eq_true, Bool.false_eq_true, false_implies, ite_self, Nat.mul_one, t1, list_of hfb2, List.getElem?_cons_zero, List.getElem?_cons_succ, hp1, hp2, ptrTo]
      obtain ⟨S3, u1, u2, u3, u4⟩ := st_all (n := 5) (cs := (opL o).toArray) (fresh_at S2 [.int .i64 0, .int .i64 0, .int .i64 0, .int .i64 0, .int .i64 0] 0) rfl rfl rfl
      have hsb : S3.m S2.n = some (.cells (opL o) 0) := u2
      have hn3 : S3.n = S2.n + 1 := u3
      refine ⟨S3, u1, ?_⟩
      have f3 : ∀ y, y < S2.n → S3.m y = S2.m y := fun y hy => by rw [u4 y (by omega), fresh_old _ _ _ (by omega)]
      have hw3 : Sl S3 (ob + 1) (T.get 7) wk := hw2.keep fun y k' hy => f3 y (wf2 y k' hy)
      have hsl := succ_len os.length o i
      have hglen : (goes o).length + (more os.length o i).length = (succ os.length o i).length := by unfold succ; rw [List.length_append]
      have hun := un_set ms i hq
      refine m_wf fun wf3 => ?_
      refine m_seq ((tailA (sb := S2.n) (o := o) (v := T.get 7) hw3 wf3 (by omega) (by omega) hsb ?_ ?_).mono ?_)
      · simp [FT.get_set, FT.setL, faS_ptr, nilS_ptr, nilS_func, nilS_yield, pickS_bool, ldS_ptr, list_cells, list_ro, partS_none, lenSl_of, lenStr_of, cvInt_of, aminmax_max, aminmax_min, abin_add, abin_sub, abin_mul, abin_eql, abin_neq, abin_lss, abin_leq, abin_gtr, abin_geq, aunary_not, aextract]
      · simp [FT.get_set, FT.setL, faS_ptr, nilS_ptr, nilS_func, nilS_yield, pickS_bool, ldS_ptr, list_cells, list_ro, partS_none, lenSl_of, lenStr_of, cvInt_of, aminmax_max, aminmax_min, abin_add, abin_sub, abin_mul, abin_eql, abin_neq, abin_lss, abin_leq, abin_gtr, abin_geq, aunary_not, aextract]
      rintro _ T4 S4 ⟨rfl, hw4, ⟨hn4, hf4⟩, k1, k6, k8, k9, k10⟩
      simp only
      refine m_wf fun wf4 => ?_
      have hsb4 : S4.m S2.n = some (.cells (opL o) 0) := by rw [hf4 _ (.inr ⟨_, hsb⟩)]; exact hsb
      have hfb4 : S4.m fb = some (.cells [.int .i64 rr, ov] 0) := by rw [hf4 _ (.inl (by omega)), f3 _ (by omega)]; exact hfb2
      refine MWp.mono (tailB (fb := fb) (sb := S2.n) (rr := rr) (ov := ov) (os := os) (o := o) (i := i) hw4 wf4 (by omega) (by rw [List.length_append]; omega) hn hi ho.len hsb4 hfb4 ?_ rfl ?_ ?_) ?_
      · rw [k1]; simp [FT.get_set, FT.setL, faS_ptr, nilS_ptr, nilS_func, nilS_yield, pickS_bool, ldS_ptr, list_cells, list_ro, partS_none, lenSl_of, lenStr_of, cvInt_of, aminmax_max, aminmax_min, abin_add, abin_sub, abin_mul, abin_eql, abin_neq, abin_lss, abin_leq, abin_gtr, abin_geq, aunary_not, aextract, t1]
      · rw [k9]; simp [FT.get_set, FT.setL, faS_ptr, nilS_ptr, nilS_func, nilS_yield, pickS_bool, ldS_ptr, list_cells, list_ro, partS_none, lenSl_of, lenStr_of, cvInt_of, aminmax_max, aminmax_min, abin_add, abin_sub, abin_mul, abin_eql, abin_neq, abin_lss, abin_leq, abin_gtr, abin_geq, aunary_not, aextract]
      · rw [k10]; simp [FT.get_set, FT.setL, faS_ptr, nilS_ptr, nilS_func, nilS_yield, pickS_bool, ldS_ptr, list_cells, list_ro, partS_none, lenSl_of, lenStr_of, cvInt_of, aminmax_max, aminmax_min, abin_add, abin_sub, abin_mul, abin_eql, abin_neq, abin_lss, abin_leq, abin_gtr, abin_geq, aunary_not, aextract]
      rintro _ T5 S5 ⟨rfl, hw5, ⟨hn5, hf5⟩, l1, l6, l8, l9, l10⟩
      simp only
      rw [List.append_assoc] at hw5
      have hw5 : Sl S5 (ob + 1) (T5.get 7) (wk ++ succ os.length o i) := hw5
      have hdd : (wk ++ succ os.length o i).drop (k + 1) = wk.drop (k + 1) ++ succ os.length o i := List.drop_append_of_le_length (by omega)
      refine next _ _ (m - 1) (by omega) ⟨ms.set i true, wk ++ succ os.length o i, ?_, by simp; omega, by rw [List.length_append]; omega, by rw [List.length_append]; omega, hw5, ?_, by omega, ?_, fun x hx => ?_, ?_, ?_⟩ ?_ _ fun T' S' h => h
      · rw [hdd]
        refine hv.mark (x := (i : Int)) (o := o) hg hxm (by rw [Int.toNat_natCast]; exact hoo) (fun y hy => ?_) (fun y hy => ?_) (fun y hy => ?_)
        · rw [hdrop] at hy
          rcases List.mem_cons.1 hy with hy | hy
          · exact .inl hy
          · exact .inr (List.mem_append.2 (.inl hy))
        · rcases List.mem_append.1 hy with hy | hy
          · exact .inl (by rw [hdrop]; exact List.mem_cons_of_mem _ hy)
          · rw [Int.toNat_natCast]; exact .inr hy
        · rw [Int.toNat_natCast] at hy; exact List.mem_append.2 (.inr hy)
      · rw [hf5 _ (.inl (by omega)), hf4 _ (.inl (by omega)), f3 _ (by omega)]; exact s2
      · rw [hf5 _ (.inl (by omega))]; exact hfb4
      · rw [hf5 _ (.inl (by omega)), hf4 _ (.inl (by omega)), f3 _ (by omega)]; exact hold2 x hx
      · rw [l1, k1]; simp [FT.get_set, FT.setL, faS_ptr, nilS_ptr, nilS_func, nilS_yield, pickS_bool, ldS_ptr, list_cells, list_ro, partS_none, lenSl_of, lenStr_of, cvInt_of, aminmax_max, aminmax_min, abin_add, abin_sub, abin_mul, abin_eql, abin_neq, abin_lss, abin_leq, abin_gtr, abin_geq, aunary_not, aextract, t1]
      · rw [l6, k6]; simp [FT.get_set, FT.setL, faS_ptr, nilS_ptr, nilS_func, nilS_yield, pickS_bool, ldS_ptr, list_cells, list_ro, partS_none, lenSl_of, lenStr_of, cvInt_of, aminmax_max, aminmax_min, abin_add, abin_sub, abin_mul, abin_eql, abin_neq, abin_lss, abin_leq, abin_gtr, abin_geq, aunary_not, aextract, t6]
      · rw [l8, k8]; simp [FT.get_set, FT.setL, faS_ptr, nilS_ptr, nilS_func, nilS_yield, pickS_bool, ldS_ptr, list_cells, list_ro, partS_none, lenSl_of, lenStr_of, cvInt_of, aminmax_max, aminmax_min, abin_add, abin_sub, abin_mul, abin_eql, abin_neq, abin_lss, abin_leq, abin_gtr, abin_geq, aunary_not, aextract, t8]
  · have hlt : ¬ k < wk.length := by have := of_decide_eq_false hlt; omega
    refine m_exit ?_
    simp only [if_true]
    have hd : wk.drop k = [] := List.drop_of_length_le (by omega)
    rw [hd] at hv
    refine ⟨⟨ms, hv, hob⟩, by simp [FT.get_set, FT.setL, faS_ptr, nilS_ptr, nilS_func, nilS_yield, pickS_bool, ldS_ptr, list_cells, list_ro, partS_none, lenSl_of, lenStr_of, cvInt_of, aminmax_max, aminmax_min, abin_add, abin_sub, abin_mul, abin_eql, abin_neq, abin_lss, abin_leq, abin_gtr, abin_geq, aunary_not, aextract, t6], by omega, hold⟩
end Go.Proofs.Ytgkdmnfmfcdfmaa
