/-
  The walk through the code of blocks and of what is reached, part L8: what its functions do to memory. Nothing is asked.
-/
import Derived.Test.YtgkdmnfmfcdfmaaLa7
set_option linter.all false
namespace Go.Proofs.Ytgkdmnfmfcdfmaa
open Go Go.Ag
set_option linter.unusedVariables false
set_option maxRecDepth 100000

/-- the queue: k of wk are looked at -/
def nxG (bs : List Blk) (i : Nat) : List Int := match bs[i]? with | some b => nxB b | none => []
theorem nxG_of {bs : List Blk} {i : Nat} {b : Blk} (h : bs[i]? = some b) : nxG bs i = nxB b := by unfold nxG; rw [h]
theorem nxB_len (b : Blk) : (nxB b).length ≤ 2 := by unfold nxB; split <;> (try split) <;> simp
theorem nxG_len (bs : List Blk) (i : Nat) : (nxG bs i).length ≤ 2 := by unfold nxG; split; exact nxB_len _; simp
theorem nxG_good {bs : List Blk} (h : okG bs) : GoodG bs.length (nxG bs) := by
  intro i hi j hj
  obtain ⟨b, hb⟩ : ∃ b, bs[i]? = some b := ⟨_, List.getElem?_eq_getElem hi⟩
  rw [nxG_of hb] at hj
  have hok := (h.2.2 b (List.mem_of_getElem? hb)).2
  unfold nxB at hj
  rcases hok with ⟨he, ht, _⟩ | ⟨he, ht, hl, _⟩ | ⟨he, _⟩
  · simp [he] at hj; subst hj; exact ht
  · simp [he] at hj; rcases hj with rfl | rfl
    · exact ht
    · exact hl
  · simp [he] at hj
def QJ2 (bs : List Blk) (S0 : MS) (fb ob : Nat) (rr : Int) (ov : Value) (m k : Nat) (T : FT) (S : MS) : Prop :=
  ∃ ms wk, VisG bs.length (nxG bs) ms (wk.drop k) ∧ k ≤ wk.length ∧ wk.length + 2 * un ms ≤ 2 * bs.length + 1 ∧ 3 * un ms + (wk.length - k) ≤ m ∧ Sl S (ob + 1) (T.get 5) wk ∧ S.m ob = some (.cells (ms.map .bool) 1) ∧ ob + 1 ≤ S.n ∧ S.m fb = some (.cells [.int .i64 rr, ov] 0) ∧ (∀ x, x < S0.n → S.m x = S0.m x) ∧
  T.get 1 = .pointer (some ⟨fb, 0, none⟩) ∧ T.get 4 = .slice (some ⟨ob, 0, none⟩) bs.length bs.length
def QI2 (bs : List Blk) (S0 : MS) (fb ob : Nat) (rr : Int) (ov : Value) (m : Nat) (T : FT) (S : MS) : Prop := ∃ k : Nat, QJ2 bs S0 fb ob rr ov m k T S ∧ T.get 6 = .int .i64 k

theorem queue12 {S0 S : MS} {fb ob : Nat} {rr : Int} {ov : Value} {bs : List Blk} {T : FT} (hok : okG bs) (ho : Blks S0 ov bs) (wf0 : S0.WF) (hS0 : S0.n ≤ ob) (hfo : fb < ob) (hs : QI2 bs S0 fb ob rr ov (3 * bs.length + 1) T S) :
    MWp Try.prog O 60 (.block 0 (.loop (.seq (.seq (.region 6 (ro 12 6) false) (.cond (.tmp 19) .skip (.exit 0))) (.seq (.block 1 (.seq (.seq (.region 8 (ro 12 8) false) (.cond (.tmp 28) (.exit 1) .skip)) (.seq (.region 9 (ro 12 9) false) (.seq (.region 10 (ro 12 10) true) (.seq (.seq (.region 11 (ro 12 11) false) (.cond (.tmp 45) (.region 12 (ro 12 12) false) .skip)) (.seq (.region 13 (ro 12 13) false) (.cond (.tmp 53) (.region 14 (ro 12 14) false) .skip))))))) (.region 7 (ro 12 7) false))))) T S (fun x T' S' => x = .normal ∧ (∃ ms, VisG bs.length (nxG bs) ms [] ∧ S'.m ob = some (.cells (ms.map .bool) 1)) ∧ T'.get 4 = .slice (some ⟨ob, 0, none⟩) bs.length bs.length ∧ S0.n ≤ S'.n ∧ ∀ x, x < S0.n → S'.m x = S0.m x) := by
  have hg := nxG_good hok
  have hn : bs.length ≤ 2000 := hok.2.1
  have h0 : bs.length ≠ 0 := by have := hok.1; omega
  refine m_block (m_loop (fun m T S' => QI2 bs S0 fb ob rr ov m T S') _ hs ?_)
  clear hs
  rintro m T S1 ⟨k, ⟨ms, wk, hv, hk, hwl, hm, hw, hob, hon, hfb, hold, t1, t4⟩, t6⟩
  have ho1 := ho.keep wf0 hold
  refine m_seq (m_seq (m_reg ?_))
  rw [reg12_6]
  simp (decide := true) only [FT.get_set, FT.setL, faS_ptr, nilS_ptr, nilS_func, nilS_yield, pickS_bool, ldS_ptr, list_cells, list_ro, partS_none, lenSl_of, lenStr_of, cvInt_of, aminmax_max, aminmax_min, abin_add, abin_sub, abin_mul, abin_eql, abin_neq, abin_lss, abin_leq, abin_gtr, abin_geq, aunary_not, aextract, Option.some.injEq, Prod.mk.injEq, Value.bool.injEq, exists_eq_left', exists_and_left, and_assoc, decide_eq_true_eq, decide_eq_false_iff_not, if_true, if_false, Nat.zero_add, Nat.add_zero, Option.bind_some, true_and, and_true, forall_const, true_implies, Bool.not_eq_true, Bool.false_eq_true, false_implies, ite_self, Nat.mul_one, hw.lenSl, t6]
  refine m_cond (t := decide ((k : Int) < wk.length)) (by simp [evalT, FT.get_set, FT.setL, faS_ptr, nilS_ptr, nilS_func, nilS_yield, pickS_bool, ldS_ptr, list_cells, list_ro, partS_none, lenSl_of, lenStr_of, cvInt_of, aminmax_max, aminmax_min, abin_add, abin_sub, abin_mul, abin_eql, abin_neq, abin_lss, abin_leq, abin_gtr, abin_geq, aunary_not, aextract]) (fun hlt => ?_) (fun hlt => ?_)
  · have hlt : k < wk.length := by have := of_decide_eq_true hlt; omega
    refine m_skip ?_
    simp only
    obtain ⟨x, hx⟩ : ∃ x, wk[k]? = some x := ⟨_, List.getElem?_eq_getElem hlt⟩
    have hdrop : wk.drop k = x :: wk.drop (k + 1) := by
      rw [List.drop_eq_getElem_cons hlt]
      congr 1
      have := List.getElem?_eq_getElem hlt
      rw [hx] at this; exact (Option.some.inj this).symm
    have hxm : x ∈ wk.drop k := by rw [hdrop]; simp
    obtain ⟨x0, x1, x2⟩ := hv.wait x hxm
    obtain ⟨i, rfl⟩ := Int.eq_ofNat_of_zero_le x0
    have hi : i < bs.length := by omega
    have next : ∀ (T : FT) (S : MS) (m' : Nat), m' < m → QJ2 bs S0 fb ob rr ov m' (k + 1) T S → T.get 6 = .int .i64 k → ∀ Q : AExit → FT → MS → Prop, (∀ T' S', (∃ k', k' < m ∧ QI2 bs S0 fb ob rr ov k' T' S') → Q .normal T' S') → MWp Try.prog O 60 (.region 7 (ro 12 7) false) T S Q := by
      rintro T S m' hm' ⟨ms, wk, a1, a2, a3, a4, a5, a6, a7, a8, a9, a10, a11⟩ t6 Q hq
      refine m_reg ?_
      rw [reg12_7]
      simp (decide := true) only [FT.get_set, FT.setL, faS_ptr, nilS_ptr, nilS_func, nilS_yield, pickS_bool, ldS_ptr, list_cells, list_ro, partS_none, lenSl_of, lenStr_of, cvInt_of, aminmax_max, aminmax_min, abin_add, abin_sub, abin_mul, abin_eql, abin_neq, abin_lss, abin_leq, abin_gtr, abin_geq, aunary_not, aextract, Option.some.injEq, Prod.mk.injEq, Value.bool.injEq, exists_eq_left', exists_and_left, and_assoc, decide_eq_true_eq, decide_eq_false_iff_not, if_true, if_false, Nat.zero_add, Nat.add_zero, Option.bind_some, true_and, and_true, forall_const, true_implies, Bool.not_eq_true, Bool.false_eq_true, false_implies, ite_self, Nat.mul_one, t6]
      have hw : IntKind.i64.wrap ((k : Int) + 1) = ((k + 1 : Nat) : Int) := by rw [wrap_i64 (by omega) (by omega)]; rfl
      rw [hw]
      exact hq _ _ ⟨m', hm', k + 1, ⟨ms, wk, a1, a2, a3, a4, by simp [FT.get_set, FT.setL, faS_ptr, nilS_ptr, nilS_func, nilS_yield, pickS_bool, ldS_ptr, list_cells, list_ro, partS_none, lenSl_of, lenStr_of, cvInt_of, aminmax_max, aminmax_min, abin_add, abin_sub, abin_mul, abin_eql, abin_neq, abin_lss, abin_leq, abin_gtr, abin_geq, aunary_not, aextract]; exact a5, a6, a7, a8, a9, by simp [FT.get_set, FT.setL, faS_ptr, nilS_ptr, nilS_func, nilS_yield, pickS_bool, ldS_ptr, list_cells, list_ro, partS_none, lenSl_of, lenStr_of, cvInt_of, aminmax_max, aminmax_min, abin_add, abin_sub, abin_mul, abin_eql, abin_neq, abin_lss, abin_leq, abin_gtr, abin_geq, aunary_not, aextract, a10], by simp [FT.get_set, FT.setL, faS_ptr, nilS_ptr, nilS_func, nilS_yield, pickS_bool, ldS_ptr, list_cells, list_ro, partS_none, lenSl_of, lenStr_of, cvInt_of, aminmax_max, aminmax_min, abin_add, abin_sub, abin_mul, abin_eql, abin_neq, abin_lss, abin_leq, abin_gtr, abin_geq, aunary_not, aextract, a11]⟩, by simp [FT.get_set, FT.setL, faS_ptr, nilS_ptr, nilS_func, nilS_yield, pickS_bool, ldS_ptr, list_cells, list_ro, partS_none, lenSl_of, lenStr_of, cvInt_of, aminmax_max, aminmax_min, abin_add, abin_sub, abin_mul, abin_eql, abin_neq, abin_lss, abin_leq, abin_gtr, abin_geq, aunary_not, aextract]⟩
    refine m_wf fun wf1 => ?_
    refine m_seq (m_block (m_seq (m_seq (m_reg ?_))))
    rw [reg12_8]
    obtain ⟨b0, hat1, hat2⟩ := hw.at hx
    obtain ⟨q, hq⟩ : ∃ q, ms[i]? = some q := ⟨_, List.getElem?_eq_getElem (by rw [hv.len]; exact hi)⟩
    have hqm : (ms.map Value.bool)[i]? = some (.bool q) := by rw [List.getElem?_map, hq]; rfl
    simp (decide := true) only [FT.get_set, FT.setL, faS_ptr, nilS_ptr, nilS_func, nilS_yield, pickS_bool, ldS_ptr, list_cells, list_ro, partS_none, lenSl_of, lenStr_of, cvInt_of, aminmax_max, aminmax_min, abin_add, abin_sub, abin_mul, abin_eql, abin_neq, abin_lss, abin_leq, abin_gtr, abin_geq, aunary_not, aextract, Option.some.injEq, Prod.mk.injEq, Value.bool.injEq, exists_eq_left', exists_and_left, and_assoc, decide_eq_true_eq, decide_eq_false_iff_not, if_true, if_false, Nat.zero_add, Nat.add_zero, Option.bind_some, true_and, and_true, forall_const, true_implies, Bool.not_eq_true, Bool.false_eq_true, false_implies, ite_self, Nat.mul_one, t4, t6, hat1, hat2, iaSS_of (k := .i64) (i := (i : Int)) (by omega) (by omega : (i : Int) < (bs.length : Int)), Int.toNat_natCast, list_of hob, hqm]
    refine m_cond (t := q) (by simp [evalT, FT.get_set, FT.setL, faS_ptr, nilS_ptr, nilS_func, nilS_yield, pickS_bool, ldS_ptr, list_cells, list_ro, partS_none, lenSl_of, lenStr_of, cvInt_of, aminmax_max, aminmax_min, abin_add, abin_sub, abin_mul, abin_eql, abin_neq, abin_lss, abin_leq, abin_gtr, abin_geq, aunary_not, aextract]) (fun hqt => ?_) (fun hqf => ?_)
    · refine m_exit ?_
      simp only [if_true]
      subst hqt
      refine next _ _ (m - 1) (by omega) ⟨ms, wk, hv.skip (x := (i : Int)) (by rw [Int.toNat_natCast]; exact hq) (fun y hy => ?_) (fun y hy => by rw [hdrop]; exact List.mem_cons_of_mem _ hy), by omega, hwl, by omega, by simp [FT.get_set, FT.setL, faS_ptr, nilS_ptr, nilS_func, nilS_yield, pickS_bool, ldS_ptr, list_cells, list_ro, partS_none, lenSl_of, lenStr_of, cvInt_of, aminmax_max, aminmax_min, abin_add, abin_sub, abin_mul, abin_eql, abin_neq, abin_lss, abin_leq, abin_gtr, abin_geq, aunary_not, aextract]; exact hw, hob, hon, hfb, hold, by simp [FT.get_set, FT.setL, faS_ptr, nilS_ptr, nilS_func, nilS_yield, pickS_bool, ldS_ptr, list_cells, list_ro, partS_none, lenSl_of, lenStr_of, cvInt_of, aminmax_max, aminmax_min, abin_add, abin_sub, abin_mul, abin_eql, abin_neq, abin_lss, abin_leq, abin_gtr, abin_geq, aunary_not, aextract, t1], by simp [FT.get_set, FT.setL, faS_ptr, nilS_ptr, nilS_func, nilS_yield, pickS_bool, ldS_ptr, list_cells, list_ro, partS_none, lenSl_of, lenStr_of, cvInt_of, aminmax_max, aminmax_min, abin_add, abin_sub, abin_mul, abin_eql, abin_neq, abin_lss, abin_leq, abin_gtr, abin_geq, aunary_not, aextract, t4]⟩ (by simp [FT.get_set, FT.setL, faS_ptr, nilS_ptr, nilS_func, nilS_yield, pickS_bool, ldS_ptr, list_cells, list_ro, partS_none, lenSl_of, lenStr_of, cvInt_of, aminmax_max, aminmax_min, abin_add, abin_sub, abin_mul, abin_eql, abin_neq, abin_lss, abin_leq, abin_gtr, abin_geq, aunary_not, aextract, t6]) _ fun T' S' h => h
      rw [hdrop] at hy
      exact List.mem_cons.1 hy
    · subst hqf
      refine m_skip ?_
      simp only
      refine m_seq (m_reg ?_)
      rw [reg12_9]
      obtain ⟨S2, s1, s2, s3, s4⟩ := st_one (off := i) (v := .bool true) hob (by rw [List.length_map, hv.len]; exact hi) rfl rfl
      simp (decide := true) only [FT.get_set, FT.setL, faS_ptr, nilS_ptr, nilS_func, nilS_yield, pickS_bool, ldS_ptr, list_cells, list_ro, partS_none, lenSl_of, lenStr_of, cvInt_of, aminmax_max, aminmax_min, abin_add, abin_sub, abin_mul, abin_eql, abin_neq, abin_lss, abin_leq, abin_gtr, abin_geq, aunary_not, aextract, Option.some.injEq, Prod.mk.injEq, Value.bool.injEq, exists_eq_left', exists_and_left, and_assoc, decide_eq_true_eq, decide_eq_false_iff_not, if_true, if_false, Nat.zero_add, Nat.add_zero, Option.bind_some, true_and, and_true, forall_const, true_implies, Bool.not_eq_true, Bool.false_eq_true, false_implies, ite_self, Nat.mul_one, t4, t6, hat1, hat2, iaSS_of (k := .i64) (i := (i : Int)) (by omega) (by omega : (i : Int) < (bs.length : Int)), Int.toNat_natCast]
      refine ⟨S2, s1, ?_⟩
      have hset : (ms.map Value.bool).set i (.bool true) = (ms.set i true).map .bool := by rw [List.map_set]
      rw [hset] at s2
      have hw2 : Sl S2 (ob + 1) (T.get 5) wk := by
        generalize T.get 5 = v at hw ⊢
        cases hw with
        | non => exact .non
        | own h1 h2 h3 h4 => exact .own (by rw [s4 _ (by omega)]; exact h1) h2 h3 h4
      have hold2 : ∀ x, x < S0.n → S2.m x = S0.m x := fun x hx => by rw [s4 x (by omega), hold x hx]
      have hfb2 : S2.m fb = some (.cells [.int .i64 rr, ov] 0) := by rw [s4 _ (by omega)]; exact hfb
      have ho2 := ho.keep wf0 hold2
      refine m_wf fun wf2 => ?_
      obtain ⟨b, hb⟩ : ∃ b, bs[i]? = some b := ⟨_, List.getElem?_eq_getElem hi⟩
      obtain ⟨p, hp1, hp2⟩ := ho2.at hb
      have hbm := List.mem_of_getElem? hb
      obtain ⟨b2, hat3, hat4⟩ := hw2.at hx
      refine m_seq (m_draw ?_)
      rw [reg12_10]
      simp (decide := true) only [FT.get_set, FT.setL, faS_ptr, nilS_ptr, nilS_func, nilS_yield, pickS_bool, ldS_ptr, list_cells, list_ro, partS_none, lenSl_of, lenStr_of, cvInt_of, aminmax_max, aminmax_min, abin_add, abin_sub, abin_mul, abin_eql, abin_neq, abin_lss, abin_leq, abin_gtr, abin_geq, aunary_not, aextract, Option.some.injEq, Prod.mk.injEq, Value.bool.injEq, exists_eq_left', exists_and_left, and_assoc, decide_eq_true_eq, decide_eq_false_iff_not, if_true, if_false, Nat.zero_add, Nat.add_zero, Option.bind_some, true_and, and_true, forall_const, true_implies, Bool.not_eq_true, Bool.false_eq_true, false_implies, ite_self, Nat.mul_one, t1, t6, hat3, hat4, list_of hfb2, List.getElem?_cons_zero, List.getElem?_cons_succ, hp1, hp2, ptrTo]
      obtain ⟨S3, u1, u2, u3, u4⟩ := st_all (n := 5) (cs := (blkL b).toArray) (fresh_at S2 [.slice none 0 0, .int .i64 0, .int .i64 0, .int .i64 0, .int .i64 0] 0) rfl rfl (blk_one (ho2.ops b hbm).oneC)
      have hsb : S3.m S2.n = some (.cells (blkL b) 0) := u2
      have hn3 : S3.n = S2.n + 1 := u3
      refine ⟨S3, u1, ?_⟩
      have f3 : ∀ y, y < S2.n → S3.m y = S2.m y := fun y hy => by rw [u4 y (by omega), fresh_old _ _ _ (by omega)]
      have hw3 : Sl S3 (ob + 1) (T.get 5) wk := hw2.keep fun y k' hy => f3 y (wf2 y k' hy)
      have hsl := nxB_len b
      have hend := (hok.2.2 b hbm).2
      have hglen : (gA b).length + (gB b).length = (nxB b).length := by rw [nxB_eq hend, List.length_append]
      have hun := un_set ms i hq
      refine m_wf fun wf3 => ?_
      refine m_seq ((tail12A (sb := S2.n) (b := b) (v := T.get 5) hw3 wf3 (by omega) (by omega) hsb ?_ ?_).mono ?_)
      · simp [FT.get_set, FT.setL, faS_ptr, nilS_ptr, nilS_func, nilS_yield, pickS_bool, ldS_ptr, list_cells, list_ro, partS_none, lenSl_of, lenStr_of, cvInt_of, aminmax_max, aminmax_min, abin_add, abin_sub, abin_mul, abin_eql, abin_neq, abin_lss, abin_leq, abin_gtr, abin_geq, aunary_not, aextract]
      · simp [FT.get_set, FT.setL, faS_ptr, nilS_ptr, nilS_func, nilS_yield, pickS_bool, ldS_ptr, list_cells, list_ro, partS_none, lenSl_of, lenStr_of, cvInt_of, aminmax_max, aminmax_min, abin_add, abin_sub, abin_mul, abin_eql, abin_neq, abin_lss, abin_leq, abin_gtr, abin_geq, aunary_not, aextract]
      rintro _ T4 S4 ⟨rfl, hw4, ⟨hn4, hf4⟩, k1, k4, k6, k7⟩
      simp only
      refine m_wf fun wf4 => ?_
      have hsb4 : S4.m S2.n = some (.cells (blkL b) 0) := by rw [hf4 _ (.inr ⟨_, hsb⟩)]; exact hsb
      have hfb4 : S4.m fb = some (.cells [.int .i64 rr, ov] 0) := by rw [hf4 _ (.inl (by omega)), f3 _ (by omega)]; exact hfb2
      refine MWp.mono (tail12B (sb := S2.n) (b := b) hw4 wf4 (by omega) (by rw [List.length_append]; omega) hsb4 rfl ?_) ?_
      · rw [k7]; simp [FT.get_set, FT.setL, faS_ptr, nilS_ptr, nilS_func, nilS_yield, pickS_bool, ldS_ptr, list_cells, list_ro, partS_none, lenSl_of, lenStr_of, cvInt_of, aminmax_max, aminmax_min, abin_add, abin_sub, abin_mul, abin_eql, abin_neq, abin_lss, abin_leq, abin_gtr, abin_geq, aunary_not, aextract]
      rintro _ T5 S5 ⟨rfl, hw5, ⟨hn5, hf5⟩, l1, l4, l6, l7⟩
      simp only
      rw [List.append_assoc, ← nxB_eq hend] at hw5
      have hw5 : Sl S5 (ob + 1) (T5.get 5) (wk ++ nxB b) := hw5
      have hdd : (wk ++ nxB b).drop (k + 1) = wk.drop (k + 1) ++ nxB b := List.drop_append_of_le_length (by omega)
      refine next _ _ (m - 1) (by omega) ⟨ms.set i true, wk ++ nxB b, ?_, by simp; omega, by rw [List.length_append]; omega, by rw [List.length_append]; omega, hw5, ?_, by omega, ?_, fun x hx => ?_, ?_, ?_⟩ ?_ _ fun T' S' h => h
      · rw [hdd]
        refine hv.mark (x := (i : Int)) hg hxm (fun y hy => ?_) (fun y hy => ?_) (fun y hy => ?_)
        · rw [hdrop] at hy
          rcases List.mem_cons.1 hy with hy | hy
          · exact .inl hy
          · exact .inr (List.mem_append.2 (.inl hy))
        · rcases List.mem_append.1 hy with hy | hy
          · exact .inl (by rw [hdrop]; exact List.mem_cons_of_mem _ hy)
          · rw [Int.toNat_natCast, nxG_of hb]; exact .inr hy
        · rw [Int.toNat_natCast, nxG_of hb] at hy; exact List.mem_append.2 (.inr hy)
      · rw [hf5 _ (.inl (by omega)), hf4 _ (.inl (by omega)), f3 _ (by omega)]; exact s2
      · rw [hf5 _ (.inl (by omega))]; exact hfb4
      · rw [hf5 _ (.inl (by omega)), hf4 _ (.inl (by omega)), f3 _ (by omega)]; exact hold2 x hx
      · rw [l1, k1]; simp [FT.get_set, FT.setL, faS_ptr, nilS_ptr, nilS_func, nilS_yield, pickS_bool, ldS_ptr, list_cells, list_ro, partS_none, lenSl_of, lenStr_of, cvInt_of, aminmax_max, aminmax_min, abin_add, abin_sub, abin_mul, abin_eql, abin_neq, abin_lss, abin_leq, abin_gtr, abin_geq, aunary_not, aextract, t1]
      · rw [l4, k4]; simp [FT.get_set, FT.setL, faS_ptr, nilS_ptr, nilS_func, nilS_yield, pickS_bool, ldS_ptr, list_cells, list_ro, partS_none, lenSl_of, lenStr_of, cvInt_of, aminmax_max, aminmax_min, abin_add, abin_sub, abin_mul, abin_eql, abin_neq, abin_lss, abin_leq, abin_gtr, abin_geq, aunary_not, aextract, t4]
      · rw [l6, k6]; simp [FT.get_set, FT.setL, faS_ptr, nilS_ptr, nilS_func, nilS_yield, pickS_bool, ldS_ptr, list_cells, list_ro, partS_none, lenSl_of, lenStr_of, cvInt_of, aminmax_max, aminmax_min, abin_add, abin_sub, abin_mul, abin_eql, abin_neq, abin_lss, abin_leq, abin_gtr, abin_geq, aunary_not, aextract, t6]
  · have hlt : ¬ k < wk.length := by have := of_decide_eq_false hlt; omega
    refine m_exit ?_
    simp only [if_true]
    have hd : wk.drop k = [] := List.drop_of_length_le (by omega)
    rw [hd] at hv
    refine ⟨⟨ms, hv, hob⟩, by simp [FT.get_set, FT.setL, faS_ptr, nilS_ptr, nilS_func, nilS_yield, pickS_bool, ldS_ptr, list_cells, list_ro, partS_none, lenSl_of, lenStr_of, cvInt_of, aminmax_max, aminmax_min, abin_add, abin_sub, abin_mul, abin_eql, abin_neq, abin_lss, abin_leq, abin_gtr, abin_geq, aunary_not, aextract, t4], by omega, hold⟩
end Go.Proofs.Ytgkdmnfmfcdfmaa

