/-
  The walk through the code of blocks and of what is reached, part L18: what its functions do to memory. Nothing is asked.
-/
import Derived.Test.YtgkdmnfmfcdfmaaLa17
set_option linter.all false
namespace Go.Proofs.Ytgkdmnfmfcdfmaa
open Go Go.Ag
set_option linter.unusedVariables false
set_option maxRecDepth 100000

theorem SlF.one {α : Type} {f : α → List Value} {sz : Nat} {S : MS} {B : Nat} {v : Value} {l : List α} (h : SlF f sz S B v l) : v.cells = #[v] ∧ oneCell v = true := by cases h <;> exact ⟨rfl, rfl⟩
def Ap (u v : Value) : Prop := ∀ y, ¬ Av u y → Av v y
theorem tail_k {n : Int} {b : Blk} {i : Nat} {o : Op5} (he : endOk n b) (ho : o ∈ tailL b i) (hc : o.c ≠ 40) : 0 ≤ o.k ∧ o.k < n := by
  unfold tailL at ho
  rcases he with ⟨h, ht, _⟩ | ⟨h, ht, hl, _⟩ | ⟨h, _⟩
  · rw [if_neg (by omega), if_neg (by omega)] at ho
    split at ho
    · cases ho
    · simp at ho; subst ho; exact ht
  · rw [if_neg (by omega), if_pos h] at ho
    rcases List.mem_cons.1 ho with rfl | ho
    · exact ht
    · split at ho
      · cases ho
      · simp at ho; subst ho; exact hl
  · rw [if_pos h] at ho
    simp at ho; subst ho; exact absurd rfl hc

structure FC9 (S0 : MS) (bs : List Blk) (rr : Int) (gv : Value) (fb : Nat) (w : Value) (l : List Op5) (T : FT) (S : MS) : Prop where
  old : Old S0 S
  fb1 : S0.n + 3 ≤ fb
  fb2 : fb < S.n
  rb : S.m (S0.n + 1) = some (.cells [.int .i64 0, .slice none 0 0] 0)
  bb : S.m (S0.n + 2) = some (.cells ((bgL bs bs.length bs.length).map iv) 1)
  fbc : S.m fb = some (.cells [.int .i64 rr, w] 0)
  w : SlF opL 5 S (fb + 1) w l
  t2 : T.get 2 = .pointer (some ⟨S0.n + 1, 0, none⟩)
  t5 : T.get 5 = .slice (some ⟨S0.n + 2, 0, none⟩) bs.length bs.length
  t9 : T.get 9 = .pointer (some ⟨fb, 0, none⟩)
  t58 : T.get 58 = gv
  t59 : T.get 59 = .int .i64 bs.length

theorem FC9.keep {S0 S S' : MS} {bs : List Blk} {rr : Int} {gv : Value} {fb : Nat} {w : Value} {l : List Op5} {T T' : FT} (h : FC9 S0 bs rr gv fb w l T S) (wf : S.WF) (hk : ∀ y, y < S.n → S'.m y = S.m y) (hn : S.n ≤ S'.n) (t2 : T'.get 2 = T.get 2) (t5 : T'.get 5 = T.get 5) (t9 : T'.get 9 = T.get 9) (t58 : T'.get 58 = T.get 58) (t59 : T'.get 59 = T.get 59) : FC9 S0 bs rr gv fb w l T' S' :=
  have h1 := h.fb1
  have h2 := h.fb2
  have h3 := h.old.1
  ⟨h.old.trans ⟨hn, hk⟩, h1, by omega, (hk _ (by omega)).trans h.rb, (hk _ (by omega)).trans h.bb, (hk _ h2).trans h.fbc, h.w.keep fun y k hy => hk y (wf y k hy), t2.trans h.t2, t5.trans h.t5, t9.trans h.t9, t58.trans h.t58, t59.trans h.t59⟩

/-- a slice is made longer and put back into f -/
theorem FC9.push {S0 S : MS} {bs : List Blk} {rr : Int} {gv : Value} {fb : Nat} {w x tv : Value} {l new tl : List Op5} {T : FT} (h : FC9 S0 bs rr gv fb w l T S) (wf : S.WF) (hl : lenOfA x = some new.length) (hf : firstCellsM S 5 new.length x = some (new.flatMap opL)) (hsm : l.length + new.length ≤ 3000000) {C : Nat} (htv : SlF opL 5 S C tv tl) (hC : fb < C) (hap : Ap tv w) :
    ∃ w' S1 S2, apS false 5 40 [.int .i64 0, .int .i64 0, .int .i64 0, .int .i64 0, .int .i64 0] S [w, x] = some (w', S1) ∧ stS 1 S1 (.pointer (some ⟨fb, 0 + 1, none⟩)) w' = some S2 ∧ S.n ≤ S2.n ∧ (∀ T', T'.get 2 = T.get 2 → T'.get 5 = T.get 5 → T'.get 9 = T.get 9 → T'.get 58 = T.get 58 → T'.get 59 = T.get 59 → FC9 S0 bs rr gv fb w' (l ++ new) T' S2) ∧ SlF opL 5 S2 C tv tl ∧ Ap tv w' := by
  have h1 := h.fb1
  have h2 := h.fb2
  have h3 := h.old.1
  obtain ⟨w', S1, a1, a2, a3, a4, a5⟩ := h.w.app2 (bytes := 40) (z := [.int .i64 0, .int .i64 0, .int .i64 0, .int .i64 0, .int .i64 0]) opL_len opL_one (by decide) wf (by omega) hl hf (by omega) (by omega)
  have lo : ∀ y, y < fb + 1 → S1.m y = S.m y := fun y hy => a4 y (by omega) (h.w.av hy)
  obtain ⟨S2, u1, u2, u3, u4⟩ := st_one (off := 1) (v := w') ((lo fb (by omega)).trans h.fbc) (by simp) (SlF.one a2).1 (SlF.one a2).2
  have hw2 : SlF opL 5 S2 (fb + 1) w' (l ++ new) := a2.keep1 fun y k hy _ => u4 y fun e => by subst e; exact hy (a2.av (by omega))
  have htv2 : SlF opL 5 S2 C tv tl := htv.keep1 fun y k hy hk => by
    have hne : y ≠ fb := fun e => by subst e; exact hy (htv.av (by omega))
    rw [u4 y hne, a4 y (wf y k hk) (hap y hy)]
  refine ⟨w', S1, S2, a1, u1, by omega, fun T' e2 e5 e9 e58 e59 => ⟨⟨by omega, fun y hy => ?_⟩, h1, by omega, ?_, ?_, u2, hw2, e2.trans h.t2, e5.trans h.t5, e9.trans h.t9, e58.trans h.t58, e59.trans h.t59⟩, htv2, fun y hy => ?_⟩
  · rw [u4 y (by omega), lo y (by omega)]; exact h.old.2 y hy
  · rw [u4 _ (by omega), lo _ (by omega)]; exact h.rb
  · rw [u4 _ (by omega), lo _ (by omega)]; exact h.bb
  · cases htv with
    | non => exact (hy fun l c e => by cases e).elim
    | own hb hB hc =>
      rename_i b cap junk
      have hyb : y = b := by
        refine Classical.byContradiction fun hne => hy fun l c e => ?_
        cases e; exact hne rfl
      subst hyb
      exact a5 y (wf _ _ hb) (hap y hy)

def FD9 (S0 : MS) (bs : List Blk) (rr : Int) (gv : Value) (fb k : Nat) (b : Blk) (tv : Value) (C : Nat) (m : Nat) (T : FT) (S : MS) : Prop :=
  ∃ (j : Nat) (w : Value), j + m = (tailL b k).length ∧ FC9 S0 bs rr gv fb w (allOps bs k ++ b.ops ++ ((tailL b k).take j).map (fixOp bs)) T S ∧ SlF opL 5 S C tv (tailL b k) ∧ Ap tv w ∧ T.get 60 = .int .i64 k ∧ T.get 73 = tv ∧ T.get 74 = .int .i64 (tailL b k).length ∧ T.get 75 = .int .i64 j

theorem inner9 {S0 S : MS} {bs : List Blk} {rr : Int} {gv : Value} {fb k C : Nat} {b : Blk} {tv : Value} {T : FT} (hk : k < bs.length) (hb : bs[k]? = some b) (he : endOk bs.length b) (hn : bs.length ≤ 2000) (hp : pos bs bs.length ≤ 1000000) (hC : fb < C) (hs : FD9 S0 bs rr gv fb k b tv C (tailL b k).length T S) :
    MWp Try.prog O 97 (.block 4 (.loop (.seq (.region 20 (ro 9 20) false) (.seq (.cond (.tmp 76) .skip (.exit 4)) (.seq (.block 5 (.seq (.region 21 (ro 9 21) false) (.seq (.seq (.region 22 (ro 9 22) false) (.cond (.tmp 81) (.region 23 (ro 9 23) false) .skip)) (.region 24 (ro 9 24) false)))) (.region 25 (ro 9 25) false)))))) T S
      (fun x T' S' => x = .normal ∧ T'.get 60 = .int .i64 k ∧ ∃ w, FC9 S0 bs rr gv fb w (allOps bs (k + 1)) T' S') := by
  have hpk : pos bs (k + 1) = pos bs k + bLen b k := pos_succ hb
  have hpk2 : pos bs (k + 1) ≤ pos bs bs.length := pos_mono bs hk
  have hlen : (allOps bs k).length + b.ops.length + (tailL b k).length ≤ 1000000 := by rw [all_len]; unfold bLen at hpk; omega
  refine m_block (m_loop (fun m T S' => FD9 S0 bs rr gv fb k b tv C m T S') _ hs ?_)
  clear hs
  rintro m T S1 ⟨j, w, hj, hc, htv, hap, t60, t73, t74, t75⟩
  have c1 := hc.fb1
  have c2 := hc.fb2
  have c3 := hc.old.1
  refine m_wf fun wf1 => ?_
  refine m_seq (m_reg ?_)
  rw [reg9_20]
  simp (decide := true) only [FT.get_set, FT.setL, faS_ptr, nilS_ptr, nilS_func, nilS_yield, pickS_bool, ldS_ptr, list_cells, list_ro, partS_none, lenSl_of, lenStr_of, cvInt_of, aminmax_max, aminmax_min, abin_add, abin_sub, abin_mul, abin_eql, abin_neq, abin_lss, abin_leq, abin_gtr, abin_geq, aunary_not, aextract, Option.some.injEq, Prod.mk.injEq, Value.bool.injEq, exists_eq_left', exists_and_left, and_assoc, decide_eq_true_eq, decide_eq_false_iff_not, if_true, if_false, Nat.zero_add, Nat.add_zero, Option.bind_some, true_and, and_true, forall_const, true_implies, Bool.not_eq_true, Bool.false_eq_true, false_implies, ite_self, Nat.mul_one, t74, t75]
  refine m_seq (m_cond (t := decide ((j : Int) < (tailL b k).length)) (by simp [evalT, FT.get_set, FT.setL, faS_ptr, nilS_ptr, nilS_func, nilS_yield, pickS_bool, ldS_ptr, list_cells, list_ro, partS_none, lenSl_of, lenStr_of, cvInt_of, aminmax_max, aminmax_min, abin_add, abin_sub, abin_mul, abin_eql, abin_neq, abin_lss, abin_leq, abin_gtr, abin_geq, aunary_not, aextract]) (fun hlt => ?_) (fun hlt => ?_))
  · have hlt : j < (tailL b k).length := by have := of_decide_eq_true hlt; omega
    refine m_skip ?_
    simp only
    obtain ⟨o, ho⟩ : ∃ o, (tailL b k)[j]? = some o := ⟨_, List.getElem?_eq_getElem hlt⟩
    obtain ⟨tb, q1, q2, q3⟩ := htv.at opL_len ho
    refine m_seq (m_block (m_seq (m_reg ?_)))
    rw [reg9_21]
    simp (decide := true) only [FT.get_set, FT.setL, faS_ptr, nilS_ptr, nilS_func, nilS_yield, pickS_bool, ldS_ptr, list_cells, list_ro, partS_none, lenSl_of, lenStr_of, cvInt_of, aminmax_max, aminmax_min, abin_add, abin_sub, abin_mul, abin_eql, abin_neq, abin_lss, abin_leq, abin_gtr, abin_geq, aunary_not, aextract, Option.some.injEq, Prod.mk.injEq, Value.bool.injEq, exists_eq_left', exists_and_left, and_assoc, decide_eq_true_eq, decide_eq_false_iff_not, if_true, if_false, Nat.zero_add, Nat.add_zero, Option.bind_some, true_and, and_true, forall_const, true_implies, Bool.not_eq_true, Bool.false_eq_true, false_implies, ite_self, Nat.mul_one, t73, t75, q2, q3 S1 rfl, ptrTo]
    obtain ⟨S2, s1, s2, s3, s4⟩ := st_all (n := 5) (cs := (opL o).toArray) (fresh_at S1 [.int .i64 0, .int .i64 0, .int .i64 0, .int .i64 0, .int .i64 0] 0) rfl rfl rfl
    have hs2 : S2.m S1.n = some (.cells (opL o) 0) := s2
    have hn2 : S2.n = S1.n + 1 := s3
    refine ⟨S2, s1, ?_⟩
    have f2 : ∀ y, y < S1.n → S2.m y = S1.m y := fun y hy => by rw [s4 y (by omega), fresh_old _ _ _ (by omega)]
    have hc2 : ∀ T', T'.get 2 = T.get 2 → T'.get 5 = T.get 5 → T'.get 9 = T.get 9 → T'.get 58 = T.get 58 → T'.get 59 = T.get 59 → FC9 S0 bs rr gv fb w _ T' S2 := fun T' => hc.keep wf1 f2 (by omega)
    have rest : ∀ (T' : FT) (S3 : MS), S3.n = S2.n → (∀ y, y < S1.n → S3.m y = S1.m y) → S3.m S1.n = some (.cells (opL (fixOp bs o)) 0) → FC9 S0 bs rr gv fb w (allOps bs k ++ b.ops ++ ((tailL b k).take j).map (fixOp bs)) T' S3 → T'.get 13 = .pointer (some ⟨S1.n, 0, none⟩) → T'.get 60 = .int .i64 k → T'.get 73 = tv → T'.get 74 = .int .i64 (tailL b k).length → T'.get 75 = .int .i64 j →
        MWp Try.prog O 97 (.region 24 (ro 9 24) false) T' S3 (fun x T5 S5 => x = .normal ∧ FD9 S0 bs rr gv fb k b tv C (m - 1) (T5.set (.int .i64 (j + 1 : Nat)) 75) S5 ∧ T5.get 75 = .int .i64 j) := by
      intro T' S3 hn3 f3 hsb hc3 t13 t60 t73 t74 t75
      refine m_wf fun wf3 => m_reg ?_
      rw [reg9_24]
      have hc4 : FC9 S0 bs rr gv fb w (allOps bs k ++ b.ops ++ ((tailL b k).take j).map (fixOp bs)) T' (S3.fresh (opL (fixOp bs o)) 5) := hc3.keep wf3 (fun y hy => fresh_old _ _ _ (Nat.ne_of_lt hy)) (Nat.le_succ _) rfl rfl rfl rfl rfl
      have wf4 := wf_fresh' wf3 (opL (fixOp bs o)) 5
      have htv4 : SlF opL 5 (S3.fresh (opL (fixOp bs o)) 5) C tv (tailL b k) := htv.keep fun y k' hy => by
        have := wf1 y k' hy
        rw [fresh_old _ _ _ (by omega), f3 y this]
      obtain ⟨w', S5, S6, a1, a2, a3, a4, a5, a6⟩ := hc4.push (x := .slice (some ⟨S3.n, 0, none⟩) 1 1) (new := [fixOp bs o]) wf4 rfl (by
        have h1 := fresh_at S3 (opL (fixOp bs o)) 5
        show firstCellsM _ 5 1 _ = _
        rw [first_of (n := 1) (sz := 5) (list_of h1) (by decide) (by decide) (by simp [opL_len])]; rfl) (by simp; omega) htv4 hC hap
      simp (decide := true) only [FT.get_set, FT.setL, faS_ptr, nilS_ptr, nilS_func, nilS_yield, pickS_bool, ldS_ptr, list_cells, list_ro, partS_none, lenSl_of, lenStr_of, cvInt_of, aminmax_max, aminmax_min, abin_add, abin_sub, abin_mul, abin_eql, abin_neq, abin_lss, abin_leq, abin_gtr, abin_geq, aunary_not, aextract, Option.some.injEq, Prod.mk.injEq, Value.bool.injEq, exists_eq_left', exists_and_left, and_assoc, decide_eq_true_eq, decide_eq_false_iff_not, if_true, if_false, Nat.zero_add, Nat.add_zero, Option.bind_some, true_and, and_true, forall_const, true_implies, Bool.not_eq_true, Bool.false_eq_true, false_implies, ite_self, Nat.mul_one, hc3.t9, t13, list_of hc3.fbc, list_of hsb, partS_op, bs_op, List.getElem?_cons_zero, List.getElem?_cons_succ, a1]
      refine ⟨S6, by simpa using a2, ⟨j + 1, w', by omega, ?_, a5, a6, by simp [FT.get_set, FT.setL, faS_ptr, nilS_ptr, nilS_func, nilS_yield, pickS_bool, ldS_ptr, list_cells, list_ro, partS_none, lenSl_of, lenStr_of, cvInt_of, aminmax_max, aminmax_min, abin_add, abin_sub, abin_mul, abin_eql, abin_neq, abin_lss, abin_leq, abin_gtr, abin_geq, aunary_not, aextract, t60], by simp [FT.get_set, FT.setL, faS_ptr, nilS_ptr, nilS_func, nilS_yield, pickS_bool, ldS_ptr, list_cells, list_ro, partS_none, lenSl_of, lenStr_of, cvInt_of, aminmax_max, aminmax_min, abin_add, abin_sub, abin_mul, abin_eql, abin_neq, abin_lss, abin_leq, abin_gtr, abin_geq, aunary_not, aextract, t73], by simp [FT.get_set, FT.setL, faS_ptr, nilS_ptr, nilS_func, nilS_yield, pickS_bool, ldS_ptr, list_cells, list_ro, partS_none, lenSl_of, lenStr_of, cvInt_of, aminmax_max, aminmax_min, abin_add, abin_sub, abin_mul, abin_eql, abin_neq, abin_lss, abin_leq, abin_gtr, abin_geq, aunary_not, aextract, t74], by simp [FT.get_set, FT.setL, faS_ptr, nilS_ptr, nilS_func, nilS_yield, pickS_bool, ldS_ptr, list_cells, list_ro, partS_none, lenSl_of, lenStr_of, cvInt_of, aminmax_max, aminmax_min, abin_add, abin_sub, abin_mul, abin_eql, abin_neq, abin_lss, abin_leq, abin_gtr, abin_geq, aunary_not, aextract]⟩, by simp [FT.get_set, FT.setL, faS_ptr, nilS_ptr, nilS_func, nilS_yield, pickS_bool, ldS_ptr, list_cells, list_ro, partS_none, lenSl_of, lenStr_of, cvInt_of, aminmax_max, aminmax_min, abin_add, abin_sub, abin_mul, abin_eql, abin_neq, abin_lss, abin_leq, abin_gtr, abin_geq, aunary_not, aextract, t75]⟩
      have e : allOps bs k ++ b.ops ++ ((tailL b k).take (j + 1)).map (fixOp bs) = allOps bs k ++ b.ops ++ ((tailL b k).take j).map (fixOp bs) ++ [fixOp bs o] := by
        rw [List.take_add_one, ho, List.map_append]; simp
      rw [e]
      exact a4 _ (by simp [FT.get_set, FT.setL, faS_ptr, nilS_ptr, nilS_func, nilS_yield, pickS_bool, ldS_ptr, list_cells, list_ro, partS_none, lenSl_of, lenStr_of, cvInt_of, aminmax_max, aminmax_min, abin_add, abin_sub, abin_mul, abin_eql, abin_neq, abin_lss, abin_leq, abin_gtr, abin_geq, aunary_not, aextract]) (by simp [FT.get_set, FT.setL, faS_ptr, nilS_ptr, nilS_func, nilS_yield, pickS_bool, ldS_ptr, list_cells, list_ro, partS_none, lenSl_of, lenStr_of, cvInt_of, aminmax_max, aminmax_min, abin_add, abin_sub, abin_mul, abin_eql, abin_neq, abin_lss, abin_leq, abin_gtr, abin_geq, aunary_not, aextract]) (by simp [FT.get_set, FT.setL, faS_ptr, nilS_ptr, nilS_func, nilS_yield, pickS_bool, ldS_ptr, list_cells, list_ro, partS_none, lenSl_of, lenStr_of, cvInt_of, aminmax_max, aminmax_min, abin_add, abin_sub, abin_mul, abin_eql, abin_neq, abin_lss, abin_leq, abin_gtr, abin_geq, aunary_not, aextract]) (by simp [FT.get_set, FT.setL, faS_ptr, nilS_ptr, nilS_func, nilS_yield, pickS_bool, ldS_ptr, list_cells, list_ro, partS_none, lenSl_of, lenStr_of, cvInt_of, aminmax_max, aminmax_min, abin_add, abin_sub, abin_mul, abin_eql, abin_neq, abin_lss, abin_leq, abin_gtr, abin_geq, aunary_not, aextract]) (by simp [FT.get_set, FT.setL, faS_ptr, nilS_ptr, nilS_func, nilS_yield, pickS_bool, ldS_ptr, list_cells, list_ro, partS_none, lenSl_of, lenStr_of, cvInt_of, aminmax_max, aminmax_min, abin_add, abin_sub, abin_mul, abin_eql, abin_neq, abin_lss, abin_leq, abin_gtr, abin_geq, aunary_not, aextract])
    have next : ∀ (T5 : FT) (S5 : MS), FD9 S0 bs rr gv fb k b tv C (m - 1) (T5.set (.int .i64 (j + 1 : Nat)) 75) S5 → T5.get 75 = .int .i64 j → ∀ Q : AExit → FT → MS → Prop, (∀ T' S', (∃ k', k' < m ∧ FD9 S0 bs rr gv fb k b tv C k' T' S') → Q .normal T' S') → MWp Try.prog O 97 (.region 25 (ro 9 25) false) T5 S5 Q := by
      intro T5 S5 h t75 Q hq
      refine m_reg ?_
      rw [reg9_25]
      have hw : IntKind.i64.wrap ((j : Int) + 1) = ((j + 1 : Nat) : Int) := by rw [wrap_i64 (by omega) (by omega)]; rfl
      simp (decide := true) only [FT.get_set, FT.setL, faS_ptr, nilS_ptr, nilS_func, nilS_yield, pickS_bool, ldS_ptr, list_cells, list_ro, partS_none, lenSl_of, lenStr_of, cvInt_of, aminmax_max, aminmax_min, abin_add, abin_sub, abin_mul, abin_eql, abin_neq, abin_lss, abin_leq, abin_gtr, abin_geq, aunary_not, aextract, Option.some.injEq, Prod.mk.injEq, Value.bool.injEq, exists_eq_left', exists_and_left, and_assoc, decide_eq_true_eq, decide_eq_false_iff_not, if_true, if_false, Nat.zero_add, Nat.add_zero, Option.bind_some, true_and, and_true, forall_const, true_implies, Bool.not_eq_true, Bool.false_eq_true, false_implies, ite_self, Nat.mul_one, t75, hw]
      refine hq _ _ ⟨m - 1, by omega, ?_⟩
      obtain ⟨j', w', x1, x2, x3, x4, x5, x6, x7, x8⟩ := h
      exact ⟨j', w', x1, ⟨x2.old, x2.fb1, x2.fb2, x2.rb, x2.bb, x2.fbc, x2.w, by have := x2.t2; simpa [FT.get_set, FT.setL, faS_ptr, nilS_ptr, nilS_func, nilS_yield, pickS_bool, ldS_ptr, list_cells, list_ro, partS_none, lenSl_of, lenStr_of, cvInt_of, aminmax_max, aminmax_min, abin_add, abin_sub, abin_mul, abin_eql, abin_neq, abin_lss, abin_leq, abin_gtr, abin_geq, aunary_not, aextract] using this, by have := x2.t5; simpa [FT.get_set, FT.setL, faS_ptr, nilS_ptr, nilS_func, nilS_yield, pickS_bool, ldS_ptr, list_cells, list_ro, partS_none, lenSl_of, lenStr_of, cvInt_of, aminmax_max, aminmax_min, abin_add, abin_sub, abin_mul, abin_eql, abin_neq, abin_lss, abin_leq, abin_gtr, abin_geq, aunary_not, aextract] using this, by have := x2.t9; simpa [FT.get_set, FT.setL, faS_ptr, nilS_ptr, nilS_func, nilS_yield, pickS_bool, ldS_ptr, list_cells, list_ro, partS_none, lenSl_of, lenStr_of, cvInt_of, aminmax_max, aminmax_min, abin_add, abin_sub, abin_mul, abin_eql, abin_neq, abin_lss, abin_leq, abin_gtr, abin_geq, aunary_not, aextract] using this, by have := x2.t58; simpa [FT.get_set, FT.setL, faS_ptr, nilS_ptr, nilS_func, nilS_yield, pickS_bool, ldS_ptr, list_cells, list_ro, partS_none, lenSl_of, lenStr_of, cvInt_of, aminmax_max, aminmax_min, abin_add, abin_sub, abin_mul, abin_eql, abin_neq, abin_lss, abin_leq, abin_gtr, abin_geq, aunary_not, aextract] using this, by have := x2.t59; simpa [FT.get_set, FT.setL, faS_ptr, nilS_ptr, nilS_func, nilS_yield, pickS_bool, ldS_ptr, list_cells, list_ro, partS_none, lenSl_of, lenStr_of, cvInt_of, aminmax_max, aminmax_min, abin_add, abin_sub, abin_mul, abin_eql, abin_neq, abin_lss, abin_leq, abin_gtr, abin_geq, aunary_not, aextract] using this⟩, x3, x4, by simpa [FT.get_set, FT.setL, faS_ptr, nilS_ptr, nilS_func, nilS_yield, pickS_bool, ldS_ptr, list_cells, list_ro, partS_none, lenSl_of, lenStr_of, cvInt_of, aminmax_max, aminmax_min, abin_add, abin_sub, abin_mul, abin_eql, abin_neq, abin_lss, abin_leq, abin_gtr, abin_geq, aunary_not, aextract] using x5, by simpa [FT.get_set, FT.setL, faS_ptr, nilS_ptr, nilS_func, nilS_yield, pickS_bool, ldS_ptr, list_cells, list_ro, partS_none, lenSl_of, lenStr_of, cvInt_of, aminmax_max, aminmax_min, abin_add, abin_sub, abin_mul, abin_eql, abin_neq, abin_lss, abin_leq, abin_gtr, abin_geq, aunary_not, aextract] using x6, by simpa [FT.get_set, FT.setL, faS_ptr, nilS_ptr, nilS_func, nilS_yield, pickS_bool, ldS_ptr, list_cells, list_ro, partS_none, lenSl_of, lenStr_of, cvInt_of, aminmax_max, aminmax_min, abin_add, abin_sub, abin_mul, abin_eql, abin_neq, abin_lss, abin_leq, abin_gtr, abin_geq, aunary_not, aextract] using x7, by simpa [FT.get_set, FT.setL, faS_ptr, nilS_ptr, nilS_func, nilS_yield, pickS_bool, ldS_ptr, list_cells, list_ro, partS_none, lenSl_of, lenStr_of, cvInt_of, aminmax_max, aminmax_min, abin_add, abin_sub, abin_mul, abin_eql, abin_neq, abin_lss, abin_leq, abin_gtr, abin_geq, aunary_not, aextract] using x8⟩
    refine m_seq (m_seq (m_reg ?_))
    rw [reg9_22]
    simp (decide := true) only [FT.get_set, FT.setL, faS_ptr, nilS_ptr, nilS_func, nilS_yield, pickS_bool, ldS_ptr, list_cells, list_ro, partS_none, lenSl_of, lenStr_of, cvInt_of, aminmax_max, aminmax_min, abin_add, abin_sub, abin_mul, abin_eql, abin_neq, abin_lss, abin_leq, abin_gtr, abin_geq, aunary_not, aextract, Option.some.injEq, Prod.mk.injEq, Value.bool.injEq, exists_eq_left', exists_and_left, and_assoc, decide_eq_true_eq, decide_eq_false_iff_not, if_true, if_false, Nat.zero_add, Nat.add_zero, Option.bind_some, true_and, and_true, forall_const, true_implies, Bool.not_eq_true, Bool.false_eq_true, false_implies, ite_self, Nat.mul_one, list_of hs2, ol0]
    by_cases h40 : o.c = 40
    · have e40 : (o.c != 40) = false := by simp [h40]
      have hfo : fixOp bs o = o := by unfold fixOp; rw [if_pos h40]
      refine m_cond (t := false) (by simp [evalT, FT.get_set, FT.setL, faS_ptr, nilS_ptr, nilS_func, nilS_yield, pickS_bool, ldS_ptr, list_cells, list_ro, partS_none, lenSl_of, lenStr_of, cvInt_of, aminmax_max, aminmax_min, abin_add, abin_sub, abin_mul, abin_eql, abin_neq, abin_lss, abin_leq, abin_gtr, abin_geq, aunary_not, aextract, e40]) (fun h => by cases h) (fun _ => m_skip ?_)
      simp only
      refine MWp.mono (rest _ S2 rfl f2 (by rw [hfo]; exact hs2) (hc2 _ (by simp [FT.get_set, FT.setL, faS_ptr, nilS_ptr, nilS_func, nilS_yield, pickS_bool, ldS_ptr, list_cells, list_ro, partS_none, lenSl_of, lenStr_of, cvInt_of, aminmax_max, aminmax_min, abin_add, abin_sub, abin_mul, abin_eql, abin_neq, abin_lss, abin_leq, abin_gtr, abin_geq, aunary_not, aextract]) (by simp [FT.get_set, FT.setL, faS_ptr, nilS_ptr, nilS_func, nilS_yield, pickS_bool, ldS_ptr, list_cells, list_ro, partS_none, lenSl_of, lenStr_of, cvInt_of, aminmax_max, aminmax_min, abin_add, abin_sub, abin_mul, abin_eql, abin_neq, abin_lss, abin_leq, abin_gtr, abin_geq, aunary_not, aextract]) (by simp [FT.get_set, FT.setL, faS_ptr, nilS_ptr, nilS_func, nilS_yield, pickS_bool, ldS_ptr, list_cells, list_ro, partS_none, lenSl_of, lenStr_of, cvInt_of, aminmax_max, aminmax_min, abin_add, abin_sub, abin_mul, abin_eql, abin_neq, abin_lss, abin_leq, abin_gtr, abin_geq, aunary_not, aextract]) (by simp [FT.get_set, FT.setL, faS_ptr, nilS_ptr, nilS_func, nilS_yield, pickS_bool, ldS_ptr, list_cells, list_ro, partS_none, lenSl_of, lenStr_of, cvInt_of, aminmax_max, aminmax_min, abin_add, abin_sub, abin_mul, abin_eql, abin_neq, abin_lss, abin_leq, abin_gtr, abin_geq, aunary_not, aextract]) (by simp [FT.get_set, FT.setL, faS_ptr, nilS_ptr, nilS_func, nilS_yield, pickS_bool, ldS_ptr, list_cells, list_ro, partS_none, lenSl_of, lenStr_of, cvInt_of, aminmax_max, aminmax_min, abin_add, abin_sub, abin_mul, abin_eql, abin_neq, abin_lss, abin_leq, abin_gtr, abin_geq, aunary_not, aextract])) (by simp [FT.get_set, FT.setL, faS_ptr, nilS_ptr, nilS_func, nilS_yield, pickS_bool, ldS_ptr, list_cells, list_ro, partS_none, lenSl_of, lenStr_of, cvInt_of, aminmax_max, aminmax_min, abin_add, abin_sub, abin_mul, abin_eql, abin_neq, abin_lss, abin_leq, abin_gtr, abin_geq, aunary_not, aextract]) (by simp [FT.get_set, FT.setL, faS_ptr, nilS_ptr, nilS_func, nilS_yield, pickS_bool, ldS_ptr, list_cells, list_ro, partS_none, lenSl_of, lenStr_of, cvInt_of, aminmax_max, aminmax_min, abin_add, abin_sub, abin_mul, abin_eql, abin_neq, abin_lss, abin_leq, abin_gtr, abin_geq, aunary_not, aextract, t60]) (by simp [FT.get_set, FT.setL, faS_ptr, nilS_ptr, nilS_func, nilS_yield, pickS_bool, ldS_ptr, list_cells, list_ro, partS_none, lenSl_of, lenStr_of, cvInt_of, aminmax_max, aminmax_min, abin_add, abin_sub, abin_mul, abin_eql, abin_neq, abin_lss, abin_leq, abin_gtr, abin_geq, aunary_not, aextract, t73]) (by simp [FT.get_set, FT.setL, faS_ptr, nilS_ptr, nilS_func, nilS_yield, pickS_bool, ldS_ptr, list_cells, list_ro, partS_none, lenSl_of, lenStr_of, cvInt_of, aminmax_max, aminmax_min, abin_add, abin_sub, abin_mul, abin_eql, abin_neq, abin_lss, abin_leq, abin_gtr, abin_geq, aunary_not, aextract, t74]) (by simp [FT.get_set, FT.setL, faS_ptr, nilS_ptr, nilS_func, nilS_yield, pickS_bool, ldS_ptr, list_cells, list_ro, partS_none, lenSl_of, lenStr_of, cvInt_of, aminmax_max, aminmax_min, abin_add, abin_sub, abin_mul, abin_eql, abin_neq, abin_lss, abin_leq, abin_gtr, abin_geq, aunary_not, aextract, t75])) ?_
      rintro _ T5 S5 ⟨rfl, h5, h6⟩
      exact next T5 S5 h5 h6 _ fun _ _ h => h
    · have e40 : (o.c != 40) = true := by simp [h40]
      have hkk := tail_k he (List.mem_of_getElem? ho) h40
      obtain ⟨kk, hkk0⟩ := Int.eq_ofNat_of_zero_le hkk.1
      have hkl : kk < bs.length := by have := hkk.2; omega
      have hfo : opL (fixOp bs o) = (opL o).set 4 (.int .i64 (pos bs kk)) := by unfold fixOp; rw [if_neg h40, hkk0]; rfl
      refine m_cond (t := true) (by simp [evalT, FT.get_set, FT.setL, faS_ptr, nilS_ptr, nilS_func, nilS_yield, pickS_bool, ldS_ptr, list_cells, list_ro, partS_none, lenSl_of, lenStr_of, cvInt_of, aminmax_max, aminmax_min, abin_add, abin_sub, abin_mul, abin_eql, abin_neq, abin_lss, abin_leq, abin_gtr, abin_geq, aunary_not, aextract, e40]) (fun _ => ?_) (fun h => by cases h)
      refine m_reg ?_
      rw [reg9_23]
      have hat : ((bgL bs bs.length bs.length).map iv)[kk]? = some (.int .i64 (pos bs kk)) := by rw [List.getElem?_map, bg_at bs hkl]; rfl
      have hbb2 : S2.m (S0.n + 2) = some (.cells ((bgL bs bs.length bs.length).map iv) 1) := (f2 _ (by omega)).trans hc.bb
      obtain ⟨S3, u1, u2, u3, u4⟩ := st_one (off := 4) (v := .int .i64 (pos bs kk)) hs2 (by simp [opL]) rfl rfl
      simp (decide := true) only [FT.get_set, FT.setL, faS_ptr, nilS_ptr, nilS_func, nilS_yield, pickS_bool, ldS_ptr, list_cells, list_ro, partS_none, lenSl_of, lenStr_of, cvInt_of, aminmax_max, aminmax_min, abin_add, abin_sub, abin_mul, abin_eql, abin_neq, abin_lss, abin_leq, abin_gtr, abin_geq, aunary_not, aextract, Option.some.injEq, Prod.mk.injEq, Value.bool.injEq, exists_eq_left', exists_and_left, and_assoc, decide_eq_true_eq, decide_eq_false_iff_not, if_true, if_false, Nat.zero_add, Nat.add_zero, Option.bind_some, true_and, and_true, forall_const, true_implies, Bool.not_eq_true, Bool.false_eq_true, false_implies, ite_self, Nat.mul_one, hc.t5, list_of hs2, ol4, hkk0, iaSS_of (k := .i64) (i := (kk : Int)) (by omega) (by omega : (kk : Int) < (bs.length : Int)), Int.toNat_natCast, list_of hbb2, hat]
      refine ⟨S3, by simpa using u1, ?_⟩
      have f3 : ∀ y, y < S1.n → S3.m y = S1.m y := fun y hy => by rw [u4 y (by omega), f2 y hy]
      refine MWp.mono (rest _ S3 (by omega) f3 (by rw [hfo]; exact u2) (hc.keep wf1 f3 (by omega) (by simp [FT.get_set, FT.setL, faS_ptr, nilS_ptr, nilS_func, nilS_yield, pickS_bool, ldS_ptr, list_cells, list_ro, partS_none, lenSl_of, lenStr_of, cvInt_of, aminmax_max, aminmax_min, abin_add, abin_sub, abin_mul, abin_eql, abin_neq, abin_lss, abin_leq, abin_gtr, abin_geq, aunary_not, aextract]) (by simp [FT.get_set, FT.setL, faS_ptr, nilS_ptr, nilS_func, nilS_yield, pickS_bool, ldS_ptr, list_cells, list_ro, partS_none, lenSl_of, lenStr_of, cvInt_of, aminmax_max, aminmax_min, abin_add, abin_sub, abin_mul, abin_eql, abin_neq, abin_lss, abin_leq, abin_gtr, abin_geq, aunary_not, aextract]) (by simp [FT.get_set, FT.setL, faS_ptr, nilS_ptr, nilS_func, nilS_yield, pickS_bool, ldS_ptr, list_cells, list_ro, partS_none, lenSl_of, lenStr_of, cvInt_of, aminmax_max, aminmax_min, abin_add, abin_sub, abin_mul, abin_eql, abin_neq, abin_lss, abin_leq, abin_gtr, abin_geq, aunary_not, aextract]) (by simp [FT.get_set, FT.setL, faS_ptr, nilS_ptr, nilS_func, nilS_yield, pickS_bool, ldS_ptr, list_cells, list_ro, partS_none, lenSl_of, lenStr_of, cvInt_of, aminmax_max, aminmax_min, abin_add, abin_sub, abin_mul, abin_eql, abin_neq, abin_lss, abin_leq, abin_gtr, abin_geq, aunary_not, aextract]) (by simp [FT.get_set, FT.setL, faS_ptr, nilS_ptr, nilS_func, nilS_yield, pickS_bool, ldS_ptr, list_cells, list_ro, partS_none, lenSl_of, lenStr_of, cvInt_of, aminmax_max, aminmax_min, abin_add, abin_sub, abin_mul, abin_eql, abin_neq, abin_lss, abin_leq, abin_gtr, abin_geq, aunary_not, aextract])) (by simp [FT.get_set, FT.setL, faS_ptr, nilS_ptr, nilS_func, nilS_yield, pickS_bool, ldS_ptr, list_cells, list_ro, partS_none, lenSl_of, lenStr_of, cvInt_of, aminmax_max, aminmax_min, abin_add, abin_sub, abin_mul, abin_eql, abin_neq, abin_lss, abin_leq, abin_gtr, abin_geq, aunary_not, aextract]) (by simp [FT.get_set, FT.setL, faS_ptr, nilS_ptr, nilS_func, nilS_yield, pickS_bool, ldS_ptr, list_cells, list_ro, partS_none, lenSl_of, lenStr_of, cvInt_of, aminmax_max, aminmax_min, abin_add, abin_sub, abin_mul, abin_eql, abin_neq, abin_lss, abin_leq, abin_gtr, abin_geq, aunary_not, aextract, t60]) (by simp [FT.get_set, FT.setL, faS_ptr, nilS_ptr, nilS_func, nilS_yield, pickS_bool, ldS_ptr, list_cells, list_ro, partS_none, lenSl_of, lenStr_of, cvInt_of, aminmax_max, aminmax_min, abin_add, abin_sub, abin_mul, abin_eql, abin_neq, abin_lss, abin_leq, abin_gtr, abin_geq, aunary_not, aextract, t73]) (by simp [FT.get_set, FT.setL, faS_ptr, nilS_ptr, nilS_func, nilS_yield, pickS_bool, ldS_ptr, list_cells, list_ro, partS_none, lenSl_of, lenStr_of, cvInt_of, aminmax_max, aminmax_min, abin_add, abin_sub, abin_mul, abin_eql, abin_neq, abin_lss, abin_leq, abin_gtr, abin_geq, aunary_not, aextract, t74]) (by simp [FT.get_set, FT.setL, faS_ptr, nilS_ptr, nilS_func, nilS_yield, pickS_bool, ldS_ptr, list_cells, list_ro, partS_none, lenSl_of, lenStr_of, cvInt_of, aminmax_max, aminmax_min, abin_add, abin_sub, abin_mul, abin_eql, abin_neq, abin_lss, abin_leq, abin_gtr, abin_geq, aunary_not, aextract, t75])) ?_
      rintro _ T5 S5 ⟨rfl, h5, h6⟩
      exact next T5 S5 h5 h6 _ fun _ _ h => h
  · have hlt : ¬ j < (tailL b k).length := by have := of_decide_eq_false hlt; omega
    have hjl : j = (tailL b k).length := by omega
    refine m_exit ?_
    simp only [if_true]
    refine ⟨by simp [FT.get_set, FT.setL, faS_ptr, nilS_ptr, nilS_func, nilS_yield, pickS_bool, ldS_ptr, list_cells, list_ro, partS_none, lenSl_of, lenStr_of, cvInt_of, aminmax_max, aminmax_min, abin_add, abin_sub, abin_mul, abin_eql, abin_neq, abin_lss, abin_leq, abin_gtr, abin_geq, aunary_not, aextract, t60], w, ?_⟩
    have e : allOps bs (k + 1) = allOps bs k ++ b.ops ++ ((tailL b k).take j).map (fixOp bs) := by
      rw [all_succ hb, hjl, List.take_length, rowOps, List.append_assoc]
    rw [e]
    exact hc.keep wf1 (fun _ _ => rfl) (Nat.le_refl _) (by simp [FT.get_set, FT.setL, faS_ptr, nilS_ptr, nilS_func, nilS_yield, pickS_bool, ldS_ptr, list_cells, list_ro, partS_none, lenSl_of, lenStr_of, cvInt_of, aminmax_max, aminmax_min, abin_add, abin_sub, abin_mul, abin_eql, abin_neq, abin_lss, abin_leq, abin_gtr, abin_geq, aunary_not, aextract]) (by simp [FT.get_set, FT.setL, faS_ptr, nilS_ptr, nilS_func, nilS_yield, pickS_bool, ldS_ptr, list_cells, list_ro, partS_none, lenSl_of, lenStr_of, cvInt_of, aminmax_max, aminmax_min, abin_add, abin_sub, abin_mul, abin_eql, abin_neq, abin_lss, abin_leq, abin_gtr, abin_geq, aunary_not, aextract]) (by simp [FT.get_set, FT.setL, faS_ptr, nilS_ptr, nilS_func, nilS_yield, pickS_bool, ldS_ptr, list_cells, list_ro, partS_none, lenSl_of, lenStr_of, cvInt_of, aminmax_max, aminmax_min, abin_add, abin_sub, abin_mul, abin_eql, abin_neq, abin_lss, abin_leq, abin_gtr, abin_geq, aunary_not, aextract]) (by simp [FT.get_set, FT.setL, faS_ptr, nilS_ptr, nilS_func, nilS_yield, pickS_bool, ldS_ptr, list_cells, list_ro, partS_none, lenSl_of, lenStr_of, cvInt_of, aminmax_max, aminmax_min, abin_add, abin_sub, abin_mul, abin_eql, abin_neq, abin_lss, abin_leq, abin_gtr, abin_geq, aunary_not, aextract]) (by simp [FT.get_set, FT.setL, faS_ptr, nilS_ptr, nilS_func, nilS_yield, pickS_bool, ldS_ptr, list_cells, list_ro, partS_none, lenSl_of, lenStr_of, cvInt_of, aminmax_max, aminmax_min, abin_add, abin_sub, abin_mul, abin_eql, abin_neq, abin_lss, abin_leq, abin_gtr, abin_geq, aunary_not, aextract])
end Go.Proofs.Ytgkdmnfmfcdfmaa

