/-
  The walk through the code of blocks and of what is reached, part L5: what its functions do to memory. Nothing is asked.
-/
import Derived.Test.YtgkdmnfmfcdfmaaLa4
set_option linter.all false
namespace Go.Proofs.Ytgkdmnfmfcdfmaa
open Go Go.Ag
set_option linter.unusedVariables false
set_option maxRecDepth 100000

/-- the law's blocks, only read -/
structure Blks (S : MS) (gv : Value) (bs : List Blk) : Prop where
  one : gv.cells = #[gv]
  oneC : oneCell gv = true
  len : lenSl gv = some (.int .i64 bs.length)
  cells : bs ≠ [] → ∃ ab cap l, gv = .slice (some ⟨ab, 0, none⟩) bs.length cap ∧ S.m ab = some (.ro l) ∧ ∀ (k : Nat) b, bs[k]? = some b → partS (some 5) l (k * 5) = some (blkV b)
  ops : ∀ b ∈ bs, Ops S b.ov b.ops
  emp : ∀ b ∈ bs, b.ops = [] → ∀ S' sz, firstCellsM S' sz 0 b.ov = some []
theorem Blks.keep {S S' : MS} {gv : Value} {bs : List Blk} (h : Blks S gv bs) (wf : S.WF) (hk : ∀ x, x < S.n → S'.m x = S.m x) : Blks S' gv bs :=
  ⟨h.one, h.oneC, h.len, fun hne => by obtain ⟨ab, cap, l, h1, h2, h3⟩ := h.cells hne; exact ⟨ab, cap, l, h1, (hk _ (wf _ _ h2)).trans h2, h3⟩, fun b hb => (h.ops b hb).keep wf hk, h.emp⟩
theorem Blks.at {S : MS} {gv : Value} {bs : List Blk} (h : Blks S gv bs) {i : Nat} {b : Blk} (hb : bs[i]? = some b) : ∃ p, iaSS 5 gv (.int .i64 (i : Int)) = some p ∧ ldS (some 5) S p = some (blkV b) := by
  have hlt := (List.getElem?_eq_some_iff.1 hb).1
  obtain ⟨ab, cap, l, h1, h2, h3⟩ := h.cells (fun e => by rw [e] at hb; cases hb)
  refine ⟨.pointer (some ⟨ab, i * 5, none⟩), ?_, ?_⟩
  · rw [h1, iaSS_of (k := .i64) (i := (i : Int)) (by omega) (by omega : (i : Int) < (bs.length : Int)), Int.toNat_natCast, Nat.zero_add]
  · have hls : S.list ab = some l := by unfold MS.list; rw [h2]; rfl
    rw [ldS_ptr, hls]
    exact h3 i b hb
def okG (bs : List Blk) : Prop := 1 ≤ bs.length ∧ bs.length ≤ 2000 ∧ ∀ b ∈ bs, okB bs.length b

def RI23 (S0 : MS) (bs : List Blk) (gb : Nat) (m : Nat) (T : FT) (S : MS) : Prop :=
  ∃ k : Nat, k + m = bs.length ∧ (∀ (i : Nat) b, i < k → bs[i]? = some b → okB bs.length b) ∧ Old S0 S ∧ T.get 1 = .pointer (some ⟨gb, 0, none⟩) ∧ T.get 3 = .int .i64 bs.length ∧ T.get 4 = .int .i64 k

/-- isGraph, of the reference -/
theorem graph23 {S : MS} {rr : Int} {gv : Value} {bs : List Blk} (hg : Blks S gv bs) (hsm : ∀ b ∈ bs, b.ops.length ≤ 1000000) {Q : Value → MS → Prop} (hq : ∀ (r : Bool) S', (r = true ↔ okG bs) → Old S S' → Q (.bool r) S') : CallM Try.prog O 23 [fnV rr gv] S Q := by
  refine callM_wf fun wf => ?_
  refine callM_body (fnIs is23 body23 res23) (O_none (by decide)) (by simp) ?_
  refine m_seq (m_reg ?_)
  rw [reg23_0]
  simp (decide := true) only [FT.get_set, FT.setL, faS_ptr, nilS_ptr, nilS_func, nilS_yield, pickS_bool, ldS_ptr, list_cells, list_ro, partS_none, lenSl_of, lenStr_of, cvInt_of, aminmax_max, aminmax_min, abin_add, abin_sub, abin_mul, abin_eql, abin_neq, abin_lss, abin_leq, abin_gtr, abin_geq, aunary_not, aextract, Option.some.injEq, Prod.mk.injEq, Value.bool.injEq, exists_eq_left', exists_and_left, and_assoc, decide_eq_true_eq, decide_eq_false_iff_not, if_true, if_false, Nat.zero_add, Nat.add_zero, Option.bind_some, true_and, and_true, forall_const, true_implies, Bool.not_eq_true, Bool.false_eq_true, false_implies, ite_self, Nat.mul_one, fnV_cells rr hg.one, ptrTo]
  have f1 : Old S (S.fresh [.int .i64 rr, gv] 0) := ⟨Nat.le_succ _, fun y hy => fresh_old _ _ _ (Nat.ne_of_lt hy)⟩
  have hgb := fresh_at S [.int .i64 rr, gv] 0
  have wf1 := wf_fresh' wf [.int .i64 rr, gv] 0
  have hg1 := hg.keep wf f1.2
  have out : ∀ (T' : FT) (S' : MS) (r : Bool), T'.get 2 = .bool r → (r = true ↔ okG bs) → Old S S' → ((match AExit.ret with | .exit _ => False | _ => True) ∧ ∃ vs, resM Try.prog T' S' [.tmp 2] = some vs ∧ Q (oneOrTuple vs) S') := by
    intro T' S' r h4 hr hold
    simp [resM, h4, oneOrTuple]
    exact hq r _ hr hold
  refine m_seq (m_reg ?_)
  rw [reg23_1]
  simp (decide := true) only [FT.get_set, FT.setL, faS_ptr, nilS_ptr, nilS_func, nilS_yield, pickS_bool, ldS_ptr, list_cells, list_ro, partS_none, lenSl_of, lenStr_of, cvInt_of, aminmax_max, aminmax_min, abin_add, abin_sub, abin_mul, abin_eql, abin_neq, abin_lss, abin_leq, abin_gtr, abin_geq, aunary_not, aextract, Option.some.injEq, Prod.mk.injEq, Value.bool.injEq, exists_eq_left', exists_and_left, and_assoc, decide_eq_true_eq, decide_eq_false_iff_not, if_true, if_false, Nat.zero_add, Nat.add_zero, Option.bind_some, true_and, and_true, forall_const, true_implies, Bool.not_eq_true, Bool.false_eq_true, false_implies, ite_self, Nat.mul_one, list_of hgb, List.getElem?_cons_zero, List.getElem?_cons_succ, hg.len]
  have stop : ∀ (T : FT) (S1 : MS), ¬ okG bs → Old S S1 → T.get 13 = .bool true → MWp Try.prog O 27 (.cond (.tmp 13) (.seq (.region 3 (ro 23 3) false) .ret) .skip) T S1 (fun x T' S' => x = .ret ∧ T'.get 2 = .bool false ∧ S' = S1) := by
    intro T S1 hno hold h
    refine m_cond (t := true) h (fun _ => ?_) (fun h => by cases h)
    refine m_seq (m_reg ?_)
    rw [reg23_3]
    exact m_ret ⟨rfl, by simp [FT.get_set, FT.setL, faS_ptr, nilS_ptr, nilS_func, nilS_yield, pickS_bool, ldS_ptr, list_cells, list_ro, partS_none, lenSl_of, lenStr_of, cvInt_of, aminmax_max, aminmax_min, abin_add, abin_sub, abin_mul, abin_eql, abin_neq, abin_lss, abin_leq, abin_gtr, abin_geq, aunary_not, aextract], rfl⟩
  refine m_seq (m_seq (m_reg ?_))
  rw [reg23_2]
  simp (decide := true) only [FT.get_set, FT.setL, faS_ptr, nilS_ptr, nilS_func, nilS_yield, pickS_bool, ldS_ptr, list_cells, list_ro, partS_none, lenSl_of, lenStr_of, cvInt_of, aminmax_max, aminmax_min, abin_add, abin_sub, abin_mul, abin_eql, abin_neq, abin_lss, abin_leq, abin_gtr, abin_geq, aunary_not, aextract, Option.some.injEq, Prod.mk.injEq, Value.bool.injEq, exists_eq_left', exists_and_left, and_assoc, decide_eq_true_eq, decide_eq_false_iff_not, if_true, if_false, Nat.zero_add, Nat.add_zero, Option.bind_some, true_and, and_true, forall_const, true_implies, Bool.not_eq_true, Bool.false_eq_true, false_implies, ite_self, Nat.mul_one, ]
  refine ⟨fun hlt => ?_, fun hge => ?_⟩
  · have hno : ¬ okG bs := fun h => by have := h.1; omega
    refine MWp.mono (stop _ _ hno f1 ?_) ?_
    · have : (bs.length : Int) < 1 := hlt
      simp [FT.get_set, FT.setL, faS_ptr, nilS_ptr, nilS_func, nilS_yield, pickS_bool, ldS_ptr, list_cells, list_ro, partS_none, lenSl_of, lenStr_of, cvInt_of, aminmax_max, aminmax_min, abin_add, abin_sub, abin_mul, abin_eql, abin_neq, abin_lss, abin_leq, abin_gtr, abin_geq, aunary_not, aextract, this]
    · rintro _ T' S' ⟨rfl, h2, rfl⟩
      exact out _ _ false h2 (by simp [hno]) f1
  have hge : ¬ (bs.length : Int) < 1 := hge
  by_cases hbig : (bs.length : Int) > 2000
  · have hno : ¬ okG bs := fun h => by have := h.2.1; omega
    refine MWp.mono (stop _ _ hno f1 ?_) ?_
    · simp [FT.get_set, FT.setL, faS_ptr, nilS_ptr, nilS_func, nilS_yield, pickS_bool, ldS_ptr, list_cells, list_ro, partS_none, lenSl_of, lenStr_of, cvInt_of, aminmax_max, aminmax_min, abin_add, abin_sub, abin_mul, abin_eql, abin_neq, abin_lss, abin_leq, abin_gtr, abin_geq, aunary_not, aextract, hge, hbig]
    · rintro _ T' S' ⟨rfl, h2, rfl⟩
      exact out _ _ false h2 (by simp [hno]) f1
  refine m_cond (t := false) ?_ (fun h => by cases h) (fun _ => ?_)
  · simp [evalT, FT.get_set, FT.setL, faS_ptr, nilS_ptr, nilS_func, nilS_yield, pickS_bool, ldS_ptr, list_cells, list_ro, partS_none, lenSl_of, lenStr_of, cvInt_of, aminmax_max, aminmax_min, abin_add, abin_sub, abin_mul, abin_eql, abin_neq, abin_lss, abin_leq, abin_gtr, abin_geq, aunary_not, aextract, hge, hbig]
  refine m_skip ?_
  simp only
  refine m_seq (m_seq (m_reg ?_))
  rw [reg23_4]
  refine m_block (m_loop (fun m T S' => RI23 (S.fresh [.int .i64 rr, gv] 0) bs S.n m T S') bs.length ⟨0, by omega, fun i o hi => absurd hi (by omega), Old.refl _, by simp [FT.get_set, FT.setL, faS_ptr, nilS_ptr, nilS_func, nilS_yield, pickS_bool, ldS_ptr, list_cells, list_ro, partS_none, lenSl_of, lenStr_of, cvInt_of, aminmax_max, aminmax_min, abin_add, abin_sub, abin_mul, abin_eql, abin_neq, abin_lss, abin_leq, abin_gtr, abin_geq, aunary_not, aextract], by simp [FT.get_set, FT.setL, faS_ptr, nilS_ptr, nilS_func, nilS_yield, pickS_bool, ldS_ptr, list_cells, list_ro, partS_none, lenSl_of, lenStr_of, cvInt_of, aminmax_max, aminmax_min, abin_add, abin_sub, abin_mul, abin_eql, abin_neq, abin_lss, abin_leq, abin_gtr, abin_geq, aunary_not, aextract], by simp [FT.get_set, FT.setL, faS_ptr, nilS_ptr, nilS_func, nilS_yield, pickS_bool, ldS_ptr, list_cells, list_ro, partS_none, lenSl_of, lenStr_of, cvInt_of, aminmax_max, aminmax_min, abin_add, abin_sub, abin_mul, abin_eql, abin_neq, abin_lss, abin_leq, abin_gtr, abin_geq, aunary_not, aextract]⟩ ?_)
  rintro m T S1 ⟨k, hk, hall, hold, t1, t3, t4⟩
  have hg2 := hg1.keep wf1 hold.2
  have hgb1 := (hold.2 S.n (Nat.lt_succ_self _)).trans hgb
  refine m_seq (m_seq (m_reg ?_))
  rw [reg23_5]
  simp (decide := true) only [FT.get_set, FT.setL, faS_ptr, nilS_ptr, nilS_func, nilS_yield, pickS_bool, ldS_ptr, list_cells, list_ro, partS_none, lenSl_of, lenStr_of, cvInt_of, aminmax_max, aminmax_min, abin_add, abin_sub, abin_mul, abin_eql, abin_neq, abin_lss, abin_leq, abin_gtr, abin_geq, aunary_not, aextract, Option.some.injEq, Prod.mk.injEq, Value.bool.injEq, exists_eq_left', exists_and_left, and_assoc, decide_eq_true_eq, decide_eq_false_iff_not, if_true, if_false, Nat.zero_add, Nat.add_zero, Option.bind_some, true_and, and_true, forall_const, true_implies, Bool.not_eq_true, Bool.false_eq_true, false_implies, ite_self, Nat.mul_one, t3, t4]
  refine m_cond (t := decide ((k : Int) < bs.length)) (by simp [evalT, FT.get_set, FT.setL, faS_ptr, nilS_ptr, nilS_func, nilS_yield, pickS_bool, ldS_ptr, list_cells, list_ro, partS_none, lenSl_of, lenStr_of, cvInt_of, aminmax_max, aminmax_min, abin_add, abin_sub, abin_mul, abin_eql, abin_neq, abin_lss, abin_leq, abin_gtr, abin_geq, aunary_not, aextract]) (fun hlt => ?_) (fun hlt => ?_)
  · have hlt : k < bs.length := by have := of_decide_eq_true hlt; omega
    refine m_skip ?_
    simp only
    obtain ⟨b, hb⟩ : ∃ b, bs[k]? = some b := ⟨_, List.getElem?_eq_getElem hlt⟩
    obtain ⟨p, hp1, hp2⟩ := hg2.at hb
    have hbm := List.mem_of_getElem? hb
    refine m_seq (m_block (m_seq (m_reg ?_)))
    rw [reg23_7]
    simp (decide := true) only [FT.get_set, FT.setL, faS_ptr, nilS_ptr, nilS_func, nilS_yield, pickS_bool, ldS_ptr, list_cells, list_ro, partS_none, lenSl_of, lenStr_of, cvInt_of, aminmax_max, aminmax_min, abin_add, abin_sub, abin_mul, abin_eql, abin_neq, abin_lss, abin_leq, abin_gtr, abin_geq, aunary_not, aextract, Option.some.injEq, Prod.mk.injEq, Value.bool.injEq, exists_eq_left', exists_and_left, and_assoc, decide_eq_true_eq, decide_eq_false_iff_not, if_true, if_false, Nat.zero_add, Nat.add_zero, Option.bind_some, true_and, and_true, forall_const, true_implies, Bool.not_eq_true, Bool.false_eq_true, false_implies, ite_self, Nat.mul_one, t1, t3, t4, list_of hgb1, List.getElem?_cons_zero, List.getElem?_cons_succ, hp1, hp2]
    refine block38 (hg2.ops b hbm) (hsm b hbm) fun r S2 hr hold2 => ?_
    simp (decide := true) only [FT.get_set, FT.setL, faS_ptr, nilS_ptr, nilS_func, nilS_yield, pickS_bool, ldS_ptr, list_cells, list_ro, partS_none, lenSl_of, lenStr_of, cvInt_of, aminmax_max, aminmax_min, abin_add, abin_sub, abin_mul, abin_eql, abin_neq, abin_lss, abin_leq, abin_gtr, abin_geq, aunary_not, aextract, Option.some.injEq, Prod.mk.injEq, Value.bool.injEq, exists_eq_left', exists_and_left, and_assoc, decide_eq_true_eq, decide_eq_false_iff_not, if_true, if_false, Nat.zero_add, Nat.add_zero, Option.bind_some, true_and, and_true, forall_const, true_implies, Bool.not_eq_true, Bool.false_eq_true, false_implies, ite_self, Nat.mul_one, ]
    cases r with
    | false =>
      refine m_cond (t := true) (by simp [evalT, FT.get_set, FT.setL, faS_ptr, nilS_ptr, nilS_func, nilS_yield, pickS_bool, ldS_ptr, list_cells, list_ro, partS_none, lenSl_of, lenStr_of, cvInt_of, aminmax_max, aminmax_min, abin_add, abin_sub, abin_mul, abin_eql, abin_neq, abin_lss, abin_leq, abin_gtr, abin_geq, aunary_not, aextract]) (fun _ => ?_) (fun h => by cases h)
      refine m_seq (m_reg ?_)
      rw [reg23_8]
      refine m_ret ?_
      have hno : ¬ okG bs := fun h => by have := hr.2 (h.2.2 b hbm); cases this
      exact out _ _ false (by simp [FT.get_set, FT.setL, faS_ptr, nilS_ptr, nilS_func, nilS_yield, pickS_bool, ldS_ptr, list_cells, list_ro, partS_none, lenSl_of, lenStr_of, cvInt_of, aminmax_max, aminmax_min, abin_add, abin_sub, abin_mul, abin_eql, abin_neq, abin_lss, abin_leq, abin_gtr, abin_geq, aunary_not, aextract]) (by simp [hno]) ((f1.trans hold).trans hold2)
    | true =>
      refine m_cond (t := false) (by simp [evalT, FT.get_set, FT.setL, faS_ptr, nilS_ptr, nilS_func, nilS_yield, pickS_bool, ldS_ptr, list_cells, list_ro, partS_none, lenSl_of, lenStr_of, cvInt_of, aminmax_max, aminmax_min, abin_add, abin_sub, abin_mul, abin_eql, abin_neq, abin_lss, abin_leq, abin_gtr, abin_geq, aunary_not, aextract]) (fun h => by cases h) (fun _ => ?_)
      refine m_skip ?_
      simp only
      refine m_reg ?_
      rw [reg23_6]
      simp (decide := true) only [FT.get_set, FT.setL, faS_ptr, nilS_ptr, nilS_func, nilS_yield, pickS_bool, ldS_ptr, list_cells, list_ro, partS_none, lenSl_of, lenStr_of, cvInt_of, aminmax_max, aminmax_min, abin_add, abin_sub, abin_mul, abin_eql, abin_neq, abin_lss, abin_leq, abin_gtr, abin_geq, aunary_not, aextract, Option.some.injEq, Prod.mk.injEq, Value.bool.injEq, exists_eq_left', exists_and_left, and_assoc, decide_eq_true_eq, decide_eq_false_iff_not, if_true, if_false, Nat.zero_add, Nat.add_zero, Option.bind_some, true_and, and_true, forall_const, true_implies, Bool.not_eq_true, Bool.false_eq_true, false_implies, ite_self, Nat.mul_one, t4]
      have hw : IntKind.i64.wrap ((k : Int) + 1) = ((k + 1 : Nat) : Int) := by rw [wrap_i64 (by omega) (by omega)]; rfl
      rw [hw]
      refine ⟨m - 1, by omega, k + 1, by omega, fun i b' hi hb' => ?_, hold.trans hold2, by simp [FT.get_set, FT.setL, faS_ptr, nilS_ptr, nilS_func, nilS_yield, pickS_bool, ldS_ptr, list_cells, list_ro, partS_none, lenSl_of, lenStr_of, cvInt_of, aminmax_max, aminmax_min, abin_add, abin_sub, abin_mul, abin_eql, abin_neq, abin_lss, abin_leq, abin_gtr, abin_geq, aunary_not, aextract, t1], by simp [FT.get_set, FT.setL, faS_ptr, nilS_ptr, nilS_func, nilS_yield, pickS_bool, ldS_ptr, list_cells, list_ro, partS_none, lenSl_of, lenStr_of, cvInt_of, aminmax_max, aminmax_min, abin_add, abin_sub, abin_mul, abin_eql, abin_neq, abin_lss, abin_leq, abin_gtr, abin_geq, aunary_not, aextract, t3], by simp [FT.get_set, FT.setL, faS_ptr, nilS_ptr, nilS_func, nilS_yield, pickS_bool, ldS_ptr, list_cells, list_ro, partS_none, lenSl_of, lenStr_of, cvInt_of, aminmax_max, aminmax_min, abin_add, abin_sub, abin_mul, abin_eql, abin_neq, abin_lss, abin_leq, abin_gtr, abin_geq, aunary_not, aextract]⟩
      by_cases e : i = k
      · subst e; rw [hb] at hb'; cases hb'; exact hr.1 rfl
      · exact hall i b' (by omega) hb'
  · have hlt : ¬ k < bs.length := by have := of_decide_eq_false hlt; omega
    refine m_exit ?_
    simp only [if_true]
    refine m_seq (m_reg ?_)
    rw [reg23_9]
    refine m_ret (out _ _ true (by simp [FT.get_set, FT.setL, faS_ptr, nilS_ptr, nilS_func, nilS_yield, pickS_bool, ldS_ptr, list_cells, list_ro, partS_none, lenSl_of, lenStr_of, cvInt_of, aminmax_max, aminmax_min, abin_add, abin_sub, abin_mul, abin_eql, abin_neq, abin_lss, abin_leq, abin_gtr, abin_geq, aunary_not, aextract]) ?_ (f1.trans hold))
    simp
    refine ⟨by omega, by omega, fun b hb => ?_⟩
    obtain ⟨i, hi⟩ := List.getElem?_of_mem hb
    exact hall i b (by have := (List.getElem?_eq_some_iff.1 hi).1; omega) hi
end Go.Proofs.Ytgkdmnfmfcdfmaa

