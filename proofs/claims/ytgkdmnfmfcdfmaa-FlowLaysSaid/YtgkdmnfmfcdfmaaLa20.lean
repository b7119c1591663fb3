/-
  The walk through the code of blocks and of what is reached, part L20: what its functions do to memory. Nothing is asked.
-/
import Derived.Test.YtgkdmnfmfcdfmaaLa19
set_option linter.all false
namespace Go.Proofs.Ytgkdmnfmfcdfmaa
open Go Go.Ag
set_option linter.unusedVariables false
set_option maxRecDepth 100000

def stL (bs : List Blk) (k : Nat) : List Int := (List.range k).map fun i => (pos bs i : Int)
theorem st_succ (bs : List Blk) (k : Nat) : stL bs (k + 1) = stL bs k ++ [(pos bs k : Int)] := by unfold stL; rw [List.range_succ, List.map_append]; rfl
theorem st_at (bs : List Blk) {n i : Nat} (h : i < n) : (stL bs n)[i]? = some (pos bs i : Int) := by
  unfold stL; rw [List.getElem?_map, List.getElem?_range h]; rfl

def FG10 (S0 : MS) (bs : List Blk) (rr : Int) (gv : Value) (m : Nat) (T : FT) (S : MS) : Prop :=
  ∃ k : Nat, k + m = bs.length ∧ Old S0 S ∧ S0.n + 2 ≤ S.n ∧ S.m S0.n = some (.cells [.int .i64 rr, gv] 0) ∧ S.m (S0.n + 1) = some (.cells [.int .i64 0, .slice none 0 0] 0) ∧ Sl S (S0.n + 2) (T.get 4) (stL bs k) ∧
  T.get 1 = .pointer (some ⟨S0.n, 0, none⟩) ∧ T.get 2 = .pointer (some ⟨S0.n + 1, 0, none⟩) ∧ T.get 5 = .int .i64 (pos bs k) ∧ T.get 6 = .int .i64 k

theorem first10 {S0 S : MS} {bs : List Blk} {rr : Int} {gv : Value} {T : FT} (hok : okG bs) (hg : Blks S0 gv bs) (wf0 : S0.WF) (hp : pos bs bs.length ≤ 1000000) (hs : FG10 S0 bs rr gv bs.length T S) :
    MWp Try.prog O 115 (.block 0 (.loop (.seq (.seq (.region 6 (ro 10 6) false) (.cond (.tmp 18) .skip (.exit 0))) (.seq (.block 1 (.seq (.region 8 (ro 10 8) false) (.region 9 (ro 10 9) false))) (.region 7 (ro 10 7) false))))) T S
      (fun x T' S' => x = .normal ∧ FG10 S0 bs rr gv 0 T' S') := by
  have hn := hok.2.1
  refine m_block (m_loop (fun m T S' => FG10 S0 bs rr gv m T S') _ hs ?_)
  clear hs
  rintro m T S1 ⟨k, hk, hold, hn2, hgb, hrb, hsl, t1, t2, t5, t6⟩
  have hg1 := hg.keep wf0 hold.2
  refine m_wf fun wf1 => m_seq (m_seq (m_reg ?_))
  rw [reg10_6]
  simp (decide := true) only [FT.get_set, FT.setL, faS_ptr, nilS_ptr, nilS_func, nilS_yield, pickS_bool, ldS_ptr, list_cells, list_ro, partS_none, lenSl_of, lenStr_of, cvInt_of, aminmax_max, aminmax_min, abin_add, abin_sub, abin_mul, abin_eql, abin_neq, abin_lss, abin_leq, abin_gtr, abin_geq, aunary_not, aextract, Option.some.injEq, Prod.mk.injEq, Value.bool.injEq, exists_eq_left', exists_and_left, and_assoc, decide_eq_true_eq, decide_eq_false_iff_not, if_true, if_false, Nat.zero_add, Nat.add_zero, Option.bind_some, true_and, and_true, forall_const, true_implies, Bool.not_eq_true, Bool.false_eq_true, false_implies, ite_self, Nat.mul_one, t1, t6, list_of hgb, List.getElem?_cons_zero, List.getElem?_cons_succ, hg.len]
  refine m_cond (t := decide ((k : Int) < bs.length)) (by simp [evalT, FT.get_set, FT.setL, faS_ptr, nilS_ptr, nilS_func, nilS_yield, pickS_bool, ldS_ptr, list_cells, list_ro, partS_none, lenSl_of, lenStr_of, cvInt_of, aminmax_max, aminmax_min, abin_add, abin_sub, abin_mul, abin_eql, abin_neq, abin_lss, abin_leq, abin_gtr, abin_geq, aunary_not, aextract]) (fun hlt => ?_) (fun hlt => ?_)
  · have hlt : k < bs.length := by have := of_decide_eq_true hlt; omega
    refine m_skip ?_
    simp only
    obtain ⟨b, hb⟩ : ∃ b, bs[k]? = some b := ⟨_, List.getElem?_eq_getElem hlt⟩
    have hbm := List.mem_of_getElem? hb
    have hpk : pos bs (k + 1) = pos bs k + bLen b k := pos_succ hb
    have hpk2 : pos bs (k + 1) ≤ pos bs bs.length := pos_mono bs hlt
    have hbl : pos bs k + b.ops.length + (tailL b k).length ≤ 1000000 := by unfold bLen at hpk; omega
    refine m_seq (m_block (m_seq (m_reg ?_)))
    rw [reg10_8]
    have hstl : (stL bs k).length = k := by simp [stL]
    obtain ⟨v', S2, a1, a2, a3, a4⟩ := hsl.push wf1 hn2 (pos bs k : Int) (by omega)
    simp (decide := true) only [FT.get_set, FT.setL, faS_ptr, nilS_ptr, nilS_func, nilS_yield, pickS_bool, ldS_ptr, list_cells, list_ro, partS_none, lenSl_of, lenStr_of, cvInt_of, aminmax_max, aminmax_min, abin_add, abin_sub, abin_mul, abin_eql, abin_neq, abin_lss, abin_leq, abin_gtr, abin_geq, aunary_not, aextract, Option.some.injEq, Prod.mk.injEq, Value.bool.injEq, exists_eq_left', exists_and_left, and_assoc, decide_eq_true_eq, decide_eq_false_iff_not, if_true, if_false, Nat.zero_add, Nat.add_zero, Option.bind_some, true_and, and_true, forall_const, true_implies, Bool.not_eq_true, Bool.false_eq_true, false_implies, ite_self, Nat.mul_one, t5, bsS_one S1 1 [.int .i64 0] (.int .i64 (pos bs k)) rfl rfl, cells_int, a1]
    have hgb2 := (a4 S0.n (by omega)).trans hgb
    have hrb2 := (a4 (S0.n + 1) (by omega)).trans hrb
    have hold2 : Old S0 S2 := ⟨by have := hold.1; omega, fun y hy => by rw [a4 y (by omega)]; exact hold.2 y hy⟩
    have hg2 := hg.keep wf0 hold2.2
    obtain ⟨p, hp1, hp2⟩ := hg2.at hb
    refine m_wf fun wf2 => m_reg ?_
    rw [reg10_9]
    simp (decide := true) only [FT.get_set, FT.setL, faS_ptr, nilS_ptr, nilS_func, nilS_yield, pickS_bool, ldS_ptr, list_cells, list_ro, partS_none, lenSl_of, lenStr_of, cvInt_of, aminmax_max, aminmax_min, abin_add, abin_sub, abin_mul, abin_eql, abin_neq, abin_lss, abin_leq, abin_gtr, abin_geq, aunary_not, aextract, Option.some.injEq, Prod.mk.injEq, Value.bool.injEq, exists_eq_left', exists_and_left, and_assoc, decide_eq_true_eq, decide_eq_false_iff_not, if_true, if_false, Nat.zero_add, Nat.add_zero, Option.bind_some, true_and, and_true, forall_const, true_implies, Bool.not_eq_true, Bool.false_eq_true, false_implies, ite_self, Nat.mul_one, t1, t5, t6, list_of hgb2, List.getElem?_cons_zero, List.getElem?_cons_succ, hp1, hp2]
    refine size24 (by omega) (by omega) (hg2.ops b hbm).len (hok.2.2 b hbm).2 fun S3 f3 => ?_
    have hw2 : IntKind.i64.wrap ((pos bs k : Int) + ((b.ops.length + (tailL b k).length : Nat) : Int)) = ((pos bs (k + 1) : Nat) : Int) := by rw [wrap_i64 (by omega) (by omega)]; unfold bLen at hpk; omega
    simp (decide := true) only [FT.get_set, FT.setL, faS_ptr, nilS_ptr, nilS_func, nilS_yield, pickS_bool, ldS_ptr, list_cells, list_ro, partS_none, lenSl_of, lenStr_of, cvInt_of, aminmax_max, aminmax_min, abin_add, abin_sub, abin_mul, abin_eql, abin_neq, abin_lss, abin_leq, abin_gtr, abin_geq, aunary_not, aextract, Option.some.injEq, Prod.mk.injEq, Value.bool.injEq, exists_eq_left', exists_and_left, and_assoc, decide_eq_true_eq, decide_eq_false_iff_not, if_true, if_false, Nat.zero_add, Nat.add_zero, Option.bind_some, true_and, and_true, forall_const, true_implies, Bool.not_eq_true, Bool.false_eq_true, false_implies, ite_self, Nat.mul_one, hw2]
    refine m_reg ?_
    rw [reg10_7]
    have hw : IntKind.i64.wrap ((k : Int) + 1) = ((k + 1 : Nat) : Int) := by rw [wrap_i64 (by omega) (by omega)]; rfl
    simp (decide := true) only [FT.get_set, FT.setL, faS_ptr, nilS_ptr, nilS_func, nilS_yield, pickS_bool, ldS_ptr, list_cells, list_ro, partS_none, lenSl_of, lenStr_of, cvInt_of, aminmax_max, aminmax_min, abin_add, abin_sub, abin_mul, abin_eql, abin_neq, abin_lss, abin_leq, abin_gtr, abin_geq, aunary_not, aextract, Option.some.injEq, Prod.mk.injEq, Value.bool.injEq, exists_eq_left', exists_and_left, and_assoc, decide_eq_true_eq, decide_eq_false_iff_not, if_true, if_false, Nat.zero_add, Nat.add_zero, Option.bind_some, true_and, and_true, forall_const, true_implies, Bool.not_eq_true, Bool.false_eq_true, false_implies, ite_self, Nat.mul_one, t6, hw]
    refine ⟨m - 1, by omega, k + 1, by omega, hold2.trans f3, by have := f3.1; omega, (f3.2 _ (by omega)).trans hgb2, (f3.2 _ (by omega)).trans hrb2, ?_, by simp [FT.get_set, FT.setL, faS_ptr, nilS_ptr, nilS_func, nilS_yield, pickS_bool, ldS_ptr, list_cells, list_ro, partS_none, lenSl_of, lenStr_of, cvInt_of, aminmax_max, aminmax_min, abin_add, abin_sub, abin_mul, abin_eql, abin_neq, abin_lss, abin_leq, abin_gtr, abin_geq, aunary_not, aextract, t1], by simp [FT.get_set, FT.setL, faS_ptr, nilS_ptr, nilS_func, nilS_yield, pickS_bool, ldS_ptr, list_cells, list_ro, partS_none, lenSl_of, lenStr_of, cvInt_of, aminmax_max, aminmax_min, abin_add, abin_sub, abin_mul, abin_eql, abin_neq, abin_lss, abin_leq, abin_gtr, abin_geq, aunary_not, aextract, t2], by simp [FT.get_set, FT.setL, faS_ptr, nilS_ptr, nilS_func, nilS_yield, pickS_bool, ldS_ptr, list_cells, list_ro, partS_none, lenSl_of, lenStr_of, cvInt_of, aminmax_max, aminmax_min, abin_add, abin_sub, abin_mul, abin_eql, abin_neq, abin_lss, abin_leq, abin_gtr, abin_geq, aunary_not, aextract], by simp [FT.get_set, FT.setL, faS_ptr, nilS_ptr, nilS_func, nilS_yield, pickS_bool, ldS_ptr, list_cells, list_ro, partS_none, lenSl_of, lenStr_of, cvInt_of, aminmax_max, aminmax_min, abin_add, abin_sub, abin_mul, abin_eql, abin_neq, abin_lss, abin_leq, abin_gtr, abin_geq, aunary_not, aextract]⟩
    have : Sl S3 (S0.n + 2) v' (stL bs (k + 1)) := by rw [st_succ]; exact a2.keep fun y k' hy => f3.2 y (wf2 y k' hy)
    simpa [FT.get_set, FT.setL, faS_ptr, nilS_ptr, nilS_func, nilS_yield, pickS_bool, ldS_ptr, list_cells, list_ro, partS_none, lenSl_of, lenStr_of, cvInt_of, aminmax_max, aminmax_min, abin_add, abin_sub, abin_mul, abin_eql, abin_neq, abin_lss, abin_leq, abin_gtr, abin_geq, aunary_not, aextract] using this
  · have hlt : ¬ k < bs.length := by have := of_decide_eq_false hlt; omega
    refine m_exit ?_
    simp only [if_true]
    have fin : FG10 S0 bs rr gv 0 (((((T.set (.int .i64 k) 14).set (.pointer (some ⟨S0.n, 0 + 1, none⟩)) 15).set gv 16).set (.int .i64 bs.length) 17).set (.bool (decide ((k : Int) < bs.length))) 18) S1 :=
      ⟨k, by omega, hold, hn2, hgb, hrb, by simpa [FT.get_set, FT.setL, faS_ptr, nilS_ptr, nilS_func, nilS_yield, pickS_bool, ldS_ptr, list_cells, list_ro, partS_none, lenSl_of, lenStr_of, cvInt_of, aminmax_max, aminmax_min, abin_add, abin_sub, abin_mul, abin_eql, abin_neq, abin_lss, abin_leq, abin_gtr, abin_geq, aunary_not, aextract] using hsl, by simp [FT.get_set, FT.setL, faS_ptr, nilS_ptr, nilS_func, nilS_yield, pickS_bool, ldS_ptr, list_cells, list_ro, partS_none, lenSl_of, lenStr_of, cvInt_of, aminmax_max, aminmax_min, abin_add, abin_sub, abin_mul, abin_eql, abin_neq, abin_lss, abin_leq, abin_gtr, abin_geq, aunary_not, aextract, t1], by simp [FT.get_set, FT.setL, faS_ptr, nilS_ptr, nilS_func, nilS_yield, pickS_bool, ldS_ptr, list_cells, list_ro, partS_none, lenSl_of, lenStr_of, cvInt_of, aminmax_max, aminmax_min, abin_add, abin_sub, abin_mul, abin_eql, abin_neq, abin_lss, abin_leq, abin_gtr, abin_geq, aunary_not, aextract, t2], by simp [FT.get_set, FT.setL, faS_ptr, nilS_ptr, nilS_func, nilS_yield, pickS_bool, ldS_ptr, list_cells, list_ro, partS_none, lenSl_of, lenStr_of, cvInt_of, aminmax_max, aminmax_min, abin_add, abin_sub, abin_mul, abin_eql, abin_neq, abin_lss, abin_leq, abin_gtr, abin_geq, aunary_not, aextract, t5], by simp [FT.get_set, FT.setL, faS_ptr, nilS_ptr, nilS_func, nilS_yield, pickS_bool, ldS_ptr, list_cells, list_ro, partS_none, lenSl_of, lenStr_of, cvInt_of, aminmax_max, aminmax_min, abin_add, abin_sub, abin_mul, abin_eql, abin_neq, abin_lss, abin_leq, abin_gtr, abin_geq, aunary_not, aextract, t6]⟩
    first | exact fin | exact ⟨rfl, fin⟩ | exact ⟨trivial, fin⟩

structure FH10 (Sf : MS) (n : Nat) (rr : Int) (sv : Value) (rb gb : Nat) (w : Value) (l : List Op5) (T : FT) (S : MS) : Prop where
  old : ∀ y, y < Sf.n → S.m y = Sf.m y
  fb2 : Sf.n < S.n
  fbc : S.m Sf.n = some (.cells [.int .i64 rr, w] 0)
  w : SlF opL 5 S (Sf.n + 1) w l
  t1 : T.get 1 = .pointer (some ⟨gb, 0, none⟩)
  t2 : T.get 2 = .pointer (some ⟨rb, 0, none⟩)
  t4 : T.get 4 = sv
  t7 : T.get 7 = .pointer (some ⟨Sf.n, 0, none⟩)

theorem FH10.keep {Sf S S' : MS} {n rb gb : Nat} {rr : Int} {sv w : Value} {l : List Op5} {T T' : FT} (h : FH10 Sf n rr sv rb gb w l T S) (wf : S.WF) (hk : ∀ y, y < S.n → S'.m y = S.m y) (hn : S.n ≤ S'.n) (t1 : T'.get 1 = T.get 1) (t2 : T'.get 2 = T.get 2) (t4 : T'.get 4 = T.get 4) (t7 : T'.get 7 = T.get 7) : FH10 Sf n rr sv rb gb w l T' S' :=
  have h2 := h.fb2
  ⟨fun y hy => (hk y (by omega)).trans (h.old y hy), by omega, (hk _ h2).trans h.fbc, h.w.keep fun y k hy => hk y (wf y k hy), t1.trans h.t1, t2.trans h.t2, t4.trans h.t4, t7.trans h.t7⟩

theorem FH10.push {Sf S : MS} {n rb gb : Nat} {rr : Int} {sv w x : Value} {l new : List Op5} {T : FT} (h : FH10 Sf n rr sv rb gb w l T S) (wf : S.WF) (hl : lenOfA x = some new.length) (hf : firstCellsM S 5 new.length x = some (new.flatMap opL)) (hsm : l.length + new.length ≤ 3000000) :
    ∃ w' S1 S2, apS false 5 40 [.int .i64 0, .int .i64 0, .int .i64 0, .int .i64 0, .int .i64 0] S [w, x] = some (w', S1) ∧ stS 1 S1 (.pointer (some ⟨Sf.n, 0 + 1, none⟩)) w' = some S2 ∧ S.n ≤ S2.n ∧ (∀ T', T'.get 1 = T.get 1 → T'.get 2 = T.get 2 → T'.get 4 = T.get 4 → T'.get 7 = T.get 7 → FH10 Sf n rr sv rb gb w' (l ++ new) T' S2) ∧ (∀ y, Sf.n < y → y < S.n → Av w y → S2.m y = S.m y) ∧ ∀ y, y < S.n → Av w y → Av w' y := by
  have h2 := h.fb2
  obtain ⟨w', S1, a1, a2, a3, a4, a5⟩ := h.w.app2 (bytes := 40) (z := [.int .i64 0, .int .i64 0, .int .i64 0, .int .i64 0, .int .i64 0]) opL_len opL_one (by decide) wf (by omega) hl hf (by omega) (by omega)
  have lo : ∀ y, y < Sf.n + 1 → S1.m y = S.m y := fun y hy => a4 y (by omega) (h.w.av hy)
  obtain ⟨S2, u1, u2, u3, u4⟩ := st_one (off := 1) (v := w') ((lo Sf.n (by omega)).trans h.fbc) (by simp) (SlF.one a2).1 (SlF.one a2).2
  have hw2 : SlF opL 5 S2 (Sf.n + 1) w' (l ++ new) := a2.keep1 fun y k hy _ => u4 y fun e => by subst e; exact hy (a2.av (by omega))
  refine ⟨w', S1, S2, a1, u1, by omega, fun T' e1 e2 e4 e7 => ⟨fun y hy => ?_, by omega, u2, hw2, e1.trans h.t1, e2.trans h.t2, e4.trans h.t4, e7.trans h.t7⟩, fun y hy1 hy2 hv => ?_, a5⟩
  · rw [u4 y (by omega), lo y (by omega)]; exact h.old y hy
  · rw [u4 y (by omega)]; exact a4 y hy2 hv

/-- one instruction more -/
theorem FH10.push1 {Sf S : MS} {n rb gb : Nat} {rr : Int} {sv w : Value} {l : List Op5} {T : FT} (h : FH10 Sf n rr sv rb gb w l T S) (wf : S.WF) (o : Op5) (hsm : l.length ≤ 2000000) :
    ∃ w' S1 S2, apS false 5 40 [.int .i64 0, .int .i64 0, .int .i64 0, .int .i64 0, .int .i64 0] (S.fresh (opL o) 5) [w, .slice (some ⟨S.n, 0, none⟩) 1 1] = some (w', S1) ∧ stS 1 S1 (.pointer (some ⟨Sf.n, 0 + 1, none⟩)) w' = some S2 ∧ S.n ≤ S2.n ∧ (∀ T', T'.get 1 = T.get 1 → T'.get 2 = T.get 2 → T'.get 4 = T.get 4 → T'.get 7 = T.get 7 → FH10 Sf n rr sv rb gb w' (l ++ [o]) T' S2) ∧ (∀ y, Sf.n < y → y < S.n → Av w y → S2.m y = S.m y) ∧ ∀ y, y < S.n → Av w y → Av w' y := by
  have h4 : FH10 Sf n rr sv rb gb w l T (S.fresh (opL o) 5) := h.keep wf (fun y hy => fresh_old _ _ _ (Nat.ne_of_lt hy)) (Nat.le_succ _) rfl rfl rfl rfl
  obtain ⟨w', S1, S2, a1, a2, a3, a4, a5, a6⟩ := h4.push (x := .slice (some ⟨S.n, 0, none⟩) 1 1) (new := [o]) (wf_fresh' wf _ _) rfl (by
    have h1 := fresh_at S (opL o) 5
    show firstCellsM _ 5 1 _ = _
    rw [first_of (n := 1) (sz := 5) (list_of h1) (by decide) (by decide) (by simp [opL_len])]; rfl) (by simp; omega)
  exact ⟨w', S1, S2, a1, a2, by have := fresh_n S (opL o) 5; omega, a4, fun y h1 h2 h3 => by rw [a5 y h1 (by have := fresh_n S (opL o) 5; omega) h3, fresh_old _ _ _ (by omega)], fun y h1 h2 => a6 y (by have := fresh_n S (opL o) 5; omega) h2⟩
end Go.Proofs.Ytgkdmnfmfcdfmaa

