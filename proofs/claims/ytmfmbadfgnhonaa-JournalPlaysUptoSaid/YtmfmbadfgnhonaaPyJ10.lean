/-
  The walk through the journal's code: what its functions do to memory, part PyJ10. Nothing is asked.
-/
import Derived.Test.YtmfmbadfgnhonaaPyJ9
set_option linter.all false
namespace Go.Proofs.Ytmfmbadfgnhonaa
open Go Go.Ag
set_option linter.unusedVariables false
set_option maxRecDepth 100000

theorem take_eq_step {α : Type} (a b : List α) (i : Nat) (h : a.take i = b.take i) {x y : α} (ha : a[i]? = some x) (hb : b[i]? = some y) (e : x = y) : a.take (i + 1) = b.take (i + 1) := by
  rw [List.take_add_one, List.take_add_one, h, ha, hb, e]

def LI26 (S : MS) (v w : Value) (a b : List (List UInt8)) (m : Nat) (T : FT) (S' : MS) : Prop := ∃ i, i + m = a.length ∧ S' = S ∧ a.take i = b.take i ∧ T.get 0 = v ∧ T.get 1 = w ∧ T.get 5 = .int .i64 i

/-- Lists: are two slices of slices the same? -/
theorem lists26 {S : MS} {B B' : Nat} {v w : Value} {rl rl' : List Sv} {a b : List (List UInt8)} (hv : SlF svF 1 S B v rl) (ha : RBs S rl a) (hw : SlF svF 1 S B' w rl') (hb : RBs S rl' b) (hl : a.length ≤ 1000000) {Q : Value → MS → Prop} (hq : Q (.bool (a == b)) S) : CallM Try.prog O 26 [v, w] S Q := by
  refine callM_body (fnIs is26 body26 res26) (O_none (by decide)) (by simp) ?_
  refine m_seq (m_reg ?_)
  rw [reg26_0]
  refine m_seq (m_seq (m_reg ?_))
  rw [reg26_1]
  have h1 := hv.lenSl
  have h2 := hw.lenSl
  rw [ha.1] at h1
  rw [hb.1] at h2
  simp (decide := true) only [FT.get_set, FT.setL, faS_ptr, nilS_ptr, nilS_func, nilS_yield, pickS_bool, ldS_ptr, list_cells, list_ro, partS_none, lenSl_of, lenStr_of, cvInt_of, aminmax_max, aminmax_min, abin_add, abin_sub, abin_mul, abin_eql, abin_neq, abin_lss, abin_leq, abin_gtr, abin_geq, aunary_not, aextract, Option.some.injEq, Prod.mk.injEq, Value.bool.injEq, exists_eq_left', exists_and_left, and_assoc, decide_eq_true_eq, decide_eq_false_iff_not, if_true, if_false, Nat.zero_add, Nat.add_zero, Option.bind_some, true_and, and_true, forall_const, true_implies, Bool.not_eq_true, Bool.false_eq_true, false_implies, ite_self, Nat.mul_one, h1, h2]
  refine m_cond (t := (a.length : Int) != b.length) (by simp [evalT, FT.get_set, FT.setL, faS_ptr, nilS_ptr, nilS_func, nilS_yield, pickS_bool, ldS_ptr, list_cells, list_ro, partS_none, lenSl_of, lenStr_of, cvInt_of, aminmax_max, aminmax_min, abin_add, abin_sub, abin_mul, abin_eql, abin_neq, abin_lss, abin_leq, abin_gtr, abin_geq, aunary_not, aextract]) (fun hne => ?_) (fun heq => m_skip ?_)
  · refine m_seq (m_reg ?_)
    rw [reg26_2]
    refine m_ret ?_
    simp [resM, FT.get_set, FT.setL, faS_ptr, nilS_ptr, nilS_func, nilS_yield, pickS_bool, ldS_ptr, list_cells, list_ro, partS_none, lenSl_of, lenStr_of, cvInt_of, aminmax_max, aminmax_min, abin_add, abin_sub, abin_mul, abin_eql, abin_neq, abin_lss, abin_leq, abin_gtr, abin_geq, aunary_not, aextract, oneOrTuple]
    have : (a == b) = false := by
      rw [beq_eq_false_iff_ne]
      intro e; subst e; simp at hne
    rw [this] at hq; exact hq
  · have hlen : a.length = b.length := by simp at heq; omega
    simp only
    refine m_seq (m_seq (m_reg ?_))
    rw [reg26_3]
    unfold blk26_0
    refine m_block (m_loop (fun m T S' => LI26 S v w a b m T S') a.length ⟨0, by omega, rfl, rfl, by simp [FT.get_set, FT.setL, faS_ptr, nilS_ptr, nilS_func, nilS_yield, pickS_bool, ldS_ptr, list_cells, list_ro, partS_none, lenSl_of, lenStr_of, cvInt_of, aminmax_max, aminmax_min, abin_add, abin_sub, abin_mul, abin_eql, abin_neq, abin_lss, abin_leq, abin_gtr, abin_geq, aunary_not, aextract], by simp [FT.get_set, FT.setL, faS_ptr, nilS_ptr, nilS_func, nilS_yield, pickS_bool, ldS_ptr, list_cells, list_ro, partS_none, lenSl_of, lenStr_of, cvInt_of, aminmax_max, aminmax_min, abin_add, abin_sub, abin_mul, abin_eql, abin_neq, abin_lss, abin_leq, abin_gtr, abin_geq, aunary_not, aextract], by simp [FT.get_set, FT.setL, faS_ptr, nilS_ptr, nilS_func, nilS_yield, pickS_bool, ldS_ptr, list_cells, list_ro, partS_none, lenSl_of, lenStr_of, cvInt_of, aminmax_max, aminmax_min, abin_add, abin_sub, abin_mul, abin_eql, abin_neq, abin_lss, abin_leq, abin_gtr, abin_geq, aunary_not, aextract]⟩ ?_)
    rintro m T S1 ⟨i, hi, rfl, hpre, t0, t1, t5⟩
    refine m_seq (m_seq (m_reg ?_))
    rw [reg26_4]
    simp (decide := true) only [FT.get_set, FT.setL, faS_ptr, nilS_ptr, nilS_func, nilS_yield, pickS_bool, ldS_ptr, list_cells, list_ro, partS_none, lenSl_of, lenStr_of, cvInt_of, aminmax_max, aminmax_min, abin_add, abin_sub, abin_mul, abin_eql, abin_neq, abin_lss, abin_leq, abin_gtr, abin_geq, aunary_not, aextract, Option.some.injEq, Prod.mk.injEq, Value.bool.injEq, exists_eq_left', exists_and_left, and_assoc, decide_eq_true_eq, decide_eq_false_iff_not, if_true, if_false, Nat.zero_add, Nat.add_zero, Option.bind_some, true_and, and_true, forall_const, true_implies, Bool.not_eq_true, Bool.false_eq_true, false_implies, ite_self, Nat.mul_one, t0, t5, h1]
    refine m_cond (t := decide ((i : Int) < a.length)) (by simp [evalT, FT.get_set, FT.setL, faS_ptr, nilS_ptr, nilS_func, nilS_yield, pickS_bool, ldS_ptr, list_cells, list_ro, partS_none, lenSl_of, lenStr_of, cvInt_of, aminmax_max, aminmax_min, abin_add, abin_sub, abin_mul, abin_eql, abin_neq, abin_lss, abin_leq, abin_gtr, abin_geq, aunary_not, aextract]) (fun hlt => m_skip ?_) (fun hlt => m_exit ?_)
    · have hlt : i < a.length := by have := of_decide_eq_true hlt; omega
      simp only
      obtain ⟨r, hri⟩ : ∃ r, a[i]? = some r := ⟨_, List.getElem?_eq_getElem hlt⟩
      obtain ⟨r', hri'⟩ : ∃ r, b[i]? = some r := ⟨_, List.getElem?_eq_getElem (by omega)⟩
      obtain ⟨x, hxi⟩ : ∃ x, rl[i]? = some x := ⟨_, List.getElem?_eq_getElem (by rw [ha.1]; exact hlt)⟩
      obtain ⟨x', hxi'⟩ : ∃ x, rl'[i]? = some x := ⟨_, List.getElem?_eq_getElem (by rw [hb.1]; omega)⟩
      obtain ⟨p, q1, q2⟩ := SlF.at1 hv hxi
      obtain ⟨p', q1', q2'⟩ := SlF.at1 hw hxi'
      have hs := (ha.2 i x r hxi hri).str
      have hs' := (hb.2 i x' r' hxi' hri').str
      unfold blk26_1
      refine m_seq (m_block (m_seq (m_draw ?_)))
      rw [reg26_6]
      simp (decide := true) only [FT.get_set, FT.setL, faS_ptr, nilS_ptr, nilS_func, nilS_yield, pickS_bool, ldS_ptr, list_cells, list_ro, partS_none, lenSl_of, lenStr_of, cvInt_of, aminmax_max, aminmax_min, abin_add, abin_sub, abin_mul, abin_eql, abin_neq, abin_lss, abin_leq, abin_gtr, abin_geq, aunary_not, aextract, Option.some.injEq, Prod.mk.injEq, Value.bool.injEq, exists_eq_left', exists_and_left, and_assoc, decide_eq_true_eq, decide_eq_false_iff_not, if_true, if_false, Nat.zero_add, Nat.add_zero, Option.bind_some, true_and, and_true, forall_const, true_implies, Bool.not_eq_true, Bool.false_eq_true, false_implies, ite_self, Nat.mul_one, t0, t1, t5, q1, q2, q1', q2', hs, hs', abin_str_neq, ba_list]
      refine m_cond (t := !(r == r')) (by simp [evalT, FT.get_set, FT.setL, faS_ptr, nilS_ptr, nilS_func, nilS_yield, pickS_bool, ldS_ptr, list_cells, list_ro, partS_none, lenSl_of, lenStr_of, cvInt_of, aminmax_max, aminmax_min, abin_add, abin_sub, abin_mul, abin_eql, abin_neq, abin_lss, abin_leq, abin_gtr, abin_geq, aunary_not, aextract]) (fun hne => ?_) (fun heq2 => m_skip ?_)
      · refine m_seq (m_reg ?_)
        rw [reg26_7]
        refine m_ret ?_
        simp [resM, FT.get_set, FT.setL, faS_ptr, nilS_ptr, nilS_func, nilS_yield, pickS_bool, ldS_ptr, list_cells, list_ro, partS_none, lenSl_of, lenStr_of, cvInt_of, aminmax_max, aminmax_min, abin_add, abin_sub, abin_mul, abin_eql, abin_neq, abin_lss, abin_leq, abin_gtr, abin_geq, aunary_not, aextract, oneOrTuple]
        have : (a == b) = false := by
          rw [beq_eq_false_iff_ne]
          intro e; subst e
          rw [hri] at hri'; cases hri'; simp at hne
        rw [this] at hq; exact hq
      · simp only
        have e : r = r' := by simpa using heq2
        refine m_reg ?_
        rw [reg26_5]
        have hwi : IntKind.i64.wrap ((i : Int) + 1) = ((i + 1 : Nat) : Int) := by rw [wrap_i64 (by omega) (by omega)]; rfl
        simp (decide := true) only [FT.get_set, FT.setL, faS_ptr, nilS_ptr, nilS_func, nilS_yield, pickS_bool, ldS_ptr, list_cells, list_ro, partS_none, lenSl_of, lenStr_of, cvInt_of, aminmax_max, aminmax_min, abin_add, abin_sub, abin_mul, abin_eql, abin_neq, abin_lss, abin_leq, abin_gtr, abin_geq, aunary_not, aextract, Option.some.injEq, Prod.mk.injEq, Value.bool.injEq, exists_eq_left', exists_and_left, and_assoc, decide_eq_true_eq, decide_eq_false_iff_not, if_true, if_false, Nat.zero_add, Nat.add_zero, Option.bind_some, true_and, and_true, forall_const, true_implies, Bool.not_eq_true, Bool.false_eq_true, false_implies, ite_self, Nat.mul_one, t5, hwi]
        exact ⟨m - 1, by omega, i + 1, by omega, rfl, take_eq_step a b i hpre hri hri' e, by simp [FT.get_set, FT.setL, faS_ptr, nilS_ptr, nilS_func, nilS_yield, pickS_bool, ldS_ptr, list_cells, list_ro, partS_none, lenSl_of, lenStr_of, cvInt_of, aminmax_max, aminmax_min, abin_add, abin_sub, abin_mul, abin_eql, abin_neq, abin_lss, abin_leq, abin_gtr, abin_geq, aunary_not, aextract, t0], by simp [FT.get_set, FT.setL, faS_ptr, nilS_ptr, nilS_func, nilS_yield, pickS_bool, ldS_ptr, list_cells, list_ro, partS_none, lenSl_of, lenStr_of, cvInt_of, aminmax_max, aminmax_min, abin_add, abin_sub, abin_mul, abin_eql, abin_neq, abin_lss, abin_leq, abin_gtr, abin_geq, aunary_not, aextract, t1], by simp [FT.get_set, FT.setL, faS_ptr, nilS_ptr, nilS_func, nilS_yield, pickS_bool, ldS_ptr, list_cells, list_ro, partS_none, lenSl_of, lenStr_of, cvInt_of, aminmax_max, aminmax_min, abin_add, abin_sub, abin_mul, abin_eql, abin_neq, abin_lss, abin_leq, abin_gtr, abin_geq, aunary_not, aextract]⟩
    · have : i = a.length := by have := of_decide_eq_false hlt; omega
      subst this
      have e : a = b := by
        rw [List.take_length] at hpre
        rw [hpre, hlen, List.take_length]
      simp only [if_true]
      refine m_seq (m_reg ?_)
      rw [reg26_8]
      refine m_ret ?_
      simp [resM, FT.get_set, FT.setL, faS_ptr, nilS_ptr, nilS_func, nilS_yield, pickS_bool, ldS_ptr, list_cells, list_ro, partS_none, lenSl_of, lenStr_of, cvInt_of, aminmax_max, aminmax_min, abin_add, abin_sub, abin_mul, abin_eql, abin_neq, abin_lss, abin_leq, abin_gtr, abin_geq, aunary_not, aextract, oneOrTuple]
      rw [e, beq_self_eq_true] at hq; exact hq

def WI17 (S : MS) (v w : Value) (base : List UInt8) (l : List (List UInt8)) (m : Nat) (T : FT) (S' : MS) : Prop := ∃ i, i + m = l.length ∧ S' = S ∧ T.get 1 = w ∧ T.get 5 = .int .i64 (liveN base (l.take i) : Nat) ∧ T.get 6 = .int .i64 i

/-- weight, of what the law keeps -/
theorem weight17 {S : MS} {B : Nat} {v w : Value} {rl : List Sv} {base : List UInt8} {l : List (List UInt8)} (hv : RB S v base) (hw : SlF svF 1 S B w rl) (hb : RBs S rl l) (hl : liveN base l ≤ 4611686018427387904) {Q : Value → MS → Prop} (hq : Q (.int .i64 (liveN base l : Nat)) S) : CallM Try.prog O 17 [v, w] S Q := by
  refine callM_body (fnIs is17 body17 res17) (O_none (by decide)) (by simp) ?_
  refine m_seq (m_reg ?_)
  rw [reg17_0]
  refine m_seq (m_reg ?_)
  rw [reg17_1]
  have hl2 := hl
  unfold liveN at hl2
  have hw0 : IntKind.i64.wrap ((base.length : Int) + 8) = ((liveN base (l.take 0) : Nat) : Int) := by unfold liveN; rw [wrap_i64 (by omega) (by omega)]; simp [wsum]
  simp (decide := true) only [FT.get_set, FT.setL, faS_ptr, nilS_ptr, nilS_func, nilS_yield, pickS_bool, ldS_ptr, list_cells, list_ro, partS_none, lenSl_of, lenStr_of, cvInt_of, aminmax_max, aminmax_min, abin_add, abin_sub, abin_mul, abin_eql, abin_neq, abin_lss, abin_leq, abin_gtr, abin_geq, aunary_not, aextract, Option.some.injEq, Prod.mk.injEq, Value.bool.injEq, exists_eq_left', exists_and_left, and_assoc, decide_eq_true_eq, decide_eq_false_iff_not, if_true, if_false, Nat.zero_add, Nat.add_zero, Option.bind_some, true_and, and_true, forall_const, true_implies, Bool.not_eq_true, Bool.false_eq_true, false_implies, ite_self, Nat.mul_one, hv.len, hw0]
  refine m_seq (m_seq (m_reg ?_))
  rw [reg17_2]
  have h2 := hw.lenSl
  rw [hb.1] at h2
  have hwl := wsum_len l
  refine m_block (m_loop (fun m T S' => WI17 S v w base l m T S') l.length ⟨0, by omega, rfl, by simp [FT.get_set, FT.setL, faS_ptr, nilS_ptr, nilS_func, nilS_yield, pickS_bool, ldS_ptr, list_cells, list_ro, partS_none, lenSl_of, lenStr_of, cvInt_of, aminmax_max, aminmax_min, abin_add, abin_sub, abin_mul, abin_eql, abin_neq, abin_lss, abin_leq, abin_gtr, abin_geq, aunary_not, aextract], by simp [FT.get_set, FT.setL, faS_ptr, nilS_ptr, nilS_func, nilS_yield, pickS_bool, ldS_ptr, list_cells, list_ro, partS_none, lenSl_of, lenStr_of, cvInt_of, aminmax_max, aminmax_min, abin_add, abin_sub, abin_mul, abin_eql, abin_neq, abin_lss, abin_leq, abin_gtr, abin_geq, aunary_not, aextract], by simp [FT.get_set, FT.setL, faS_ptr, nilS_ptr, nilS_func, nilS_yield, pickS_bool, ldS_ptr, list_cells, list_ro, partS_none, lenSl_of, lenStr_of, cvInt_of, aminmax_max, aminmax_min, abin_add, abin_sub, abin_mul, abin_eql, abin_neq, abin_lss, abin_leq, abin_gtr, abin_geq, aunary_not, aextract]⟩ ?_)
  rintro m T S1 ⟨i, hi, rfl, t1, t5, t6⟩
  refine m_seq (m_seq (m_reg ?_))
  rw [reg17_3]
  simp (decide := true) only [FT.get_set, FT.setL, faS_ptr, nilS_ptr, nilS_func, nilS_yield, pickS_bool, ldS_ptr, list_cells, list_ro, partS_none, lenSl_of, lenStr_of, cvInt_of, aminmax_max, aminmax_min, abin_add, abin_sub, abin_mul, abin_eql, abin_neq, abin_lss, abin_leq, abin_gtr, abin_geq, aunary_not, aextract, Option.some.injEq, Prod.mk.injEq, Value.bool.injEq, exists_eq_left', exists_and_left, and_assoc, decide_eq_true_eq, decide_eq_false_iff_not, if_true, if_false, Nat.zero_add, Nat.add_zero, Option.bind_some, true_and, and_true, forall_const, true_implies, Bool.not_eq_true, Bool.false_eq_true, false_implies, ite_self, Nat.mul_one, t1, t6, h2]
  refine m_cond (t := decide ((i : Int) < l.length)) (by simp [evalT, FT.get_set, FT.setL, faS_ptr, nilS_ptr, nilS_func, nilS_yield, pickS_bool, ldS_ptr, list_cells, list_ro, partS_none, lenSl_of, lenStr_of, cvInt_of, aminmax_max, aminmax_min, abin_add, abin_sub, abin_mul, abin_eql, abin_neq, abin_lss, abin_leq, abin_gtr, abin_geq, aunary_not, aextract]) (fun hlt => m_skip ?_) (fun hlt => m_exit ?_)
  · have hlt : i < l.length := by have := of_decide_eq_true hlt; omega
    simp only
    obtain ⟨r, hri⟩ : ∃ r, l[i]? = some r := ⟨_, List.getElem?_eq_getElem hlt⟩
    obtain ⟨x, hxi⟩ : ∃ x, rl[i]? = some x := ⟨_, List.getElem?_eq_getElem (by rw [hb.1]; exact hlt)⟩
    obtain ⟨p, q1, q2⟩ := SlF.at1 hw hxi
    have hrb := hb.2 i x r hxi hri
    have htk : l.take (i + 1) = l.take i ++ [r] := by rw [List.take_add_one, hri]; rfl
    have hsum : liveN base (l.take (i + 1)) = liveN base (l.take i) + (r.length + 8) := by rw [htk, liveN_snoc]
    have hle := wsum_take_le l (i + 1)
    have hle2 : liveN base (l.take (i + 1)) ≤ liveN base l := by unfold liveN; omega
    refine m_seq (m_block (m_reg ?_))
    rw [reg17_5]
    have e1 : IntKind.i64.wrap (((liveN base (l.take i) : Nat) : Int) + (r.length : Int)) = ((liveN base (l.take i) + r.length : Nat) : Int) := by rw [wrap_i64 (by omega) (by omega)]; rfl
    have e2 : IntKind.i64.wrap (((liveN base (l.take i) + r.length : Nat) : Int) + 8) = ((liveN base (l.take (i + 1)) : Nat) : Int) := by rw [wrap_i64 (by omega) (by omega)]; omega
    simp (decide := true) only [FT.get_set, FT.setL, faS_ptr, nilS_ptr, nilS_func, nilS_yield, pickS_bool, ldS_ptr, list_cells, list_ro, partS_none, lenSl_of, lenStr_of, cvInt_of, aminmax_max, aminmax_min, abin_add, abin_sub, abin_mul, abin_eql, abin_neq, abin_lss, abin_leq, abin_gtr, abin_geq, aunary_not, aextract, Option.some.injEq, Prod.mk.injEq, Value.bool.injEq, exists_eq_left', exists_and_left, and_assoc, decide_eq_true_eq, decide_eq_false_iff_not, if_true, if_false, Nat.zero_add, Nat.add_zero, Option.bind_some, true_and, and_true, forall_const, true_implies, Bool.not_eq_true, Bool.false_eq_true, false_implies, ite_self, Nat.mul_one, t1, t5, t6, q1, q2, hrb.len, e1, e2]
    refine m_reg ?_
    rw [reg17_4]
    have hwi : IntKind.i64.wrap ((i : Int) + 1) = ((i + 1 : Nat) : Int) := by rw [wrap_i64 (by omega) (by omega)]; rfl
    simp (decide := true) only [FT.get_set, FT.setL, faS_ptr, nilS_ptr, nilS_func, nilS_yield, pickS_bool, ldS_ptr, list_cells, list_ro, partS_none, lenSl_of, lenStr_of, cvInt_of, aminmax_max, aminmax_min, abin_add, abin_sub, abin_mul, abin_eql, abin_neq, abin_lss, abin_leq, abin_gtr, abin_geq, aunary_not, aextract, Option.some.injEq, Prod.mk.injEq, Value.bool.injEq, exists_eq_left', exists_and_left, and_assoc, decide_eq_true_eq, decide_eq_false_iff_not, if_true, if_false, Nat.zero_add, Nat.add_zero, Option.bind_some, true_and, and_true, forall_const, true_implies, Bool.not_eq_true, Bool.false_eq_true, false_implies, ite_self, Nat.mul_one, t6, hwi]
    exact ⟨m - 1, by omega, i + 1, by omega, rfl, by simp [FT.get_set, FT.setL, faS_ptr, nilS_ptr, nilS_func, nilS_yield, pickS_bool, ldS_ptr, list_cells, list_ro, partS_none, lenSl_of, lenStr_of, cvInt_of, aminmax_max, aminmax_min, abin_add, abin_sub, abin_mul, abin_eql, abin_neq, abin_lss, abin_leq, abin_gtr, abin_geq, aunary_not, aextract, t1], by simp [FT.get_set, FT.setL, faS_ptr, nilS_ptr, nilS_func, nilS_yield, pickS_bool, ldS_ptr, list_cells, list_ro, partS_none, lenSl_of, lenStr_of, cvInt_of, aminmax_max, aminmax_min, abin_add, abin_sub, abin_mul, abin_eql, abin_neq, abin_lss, abin_leq, abin_gtr, abin_geq, aunary_not, aextract], by simp [FT.get_set, FT.setL, faS_ptr, nilS_ptr, nilS_func, nilS_yield, pickS_bool, ldS_ptr, list_cells, list_ro, partS_none, lenSl_of, lenStr_of, cvInt_of, aminmax_max, aminmax_min, abin_add, abin_sub, abin_mul, abin_eql, abin_neq, abin_lss, abin_leq, abin_gtr, abin_geq, aunary_not, aextract]⟩
  · have : i = l.length := by have := of_decide_eq_false hlt; omega
    subst this
    rw [List.take_length] at t5
    simp only [if_true]
    refine m_seq (m_reg ?_)
    rw [reg17_6]
    refine m_ret ?_
    simp [resM, FT.get_set, FT.setL, faS_ptr, nilS_ptr, nilS_func, nilS_yield, pickS_bool, ldS_ptr, list_cells, list_ro, partS_none, lenSl_of, lenStr_of, cvInt_of, aminmax_max, aminmax_min, abin_add, abin_sub, abin_mul, abin_eql, abin_neq, abin_lss, abin_leq, abin_gtr, abin_geq, aunary_not, aextract, oneOrTuple, t5]
    exact hq

/-- alike: has a journal this base, these records? -/
theorem alike20 {S : MS} {j d B B' half end' : Nat} {base tail : List UInt8} {rs : List (List UInt8)} {dead : Bool} (h : IsJ S j d B half end' base rs tail dead) (hl : liveN base rs ≤ 400000) {v w : Value} {rl : List Sv} {a : List UInt8} {l : List (List UInt8)} (hv : RB S v a) (hw : SlF svF 1 S B' w rl) (hb : RBs S rl l) {Q : Value → MS → Prop} (hq : ∀ S', Old S S' → Q (.bool (decide (base = a ∧ rs = l))) S') : CallM Try.prog O 20 [.pointer (some ⟨j, 0, none⟩), v, w] S Q := by
  refine callM_wf fun wf => ?_
  have hl2 := hl
  unfold liveN at hl2
  refine callM_body (fnIs is20 body20 res20) (O_none (by decide)) (by simp) ?_
  refine m_seq (m_reg ?_)
  rw [reg20_0]
  refine m_seq (m_reg ?_)
  rw [reg20_1]
  have ht : ∀ (T : FT), T = (FT.empty.setL 0 [.pointer (some ⟨j, 0, none⟩), v, w]).set (.bool false) 6 → T.get 0 = .pointer (some ⟨j, 0, none⟩) ∧ T.get 1 = v ∧ T.get 2 = w := by
    rintro T rfl
    refine ⟨by simp [FT.get_set, FT.setL, faS_ptr, nilS_ptr, nilS_func, nilS_yield, pickS_bool, ldS_ptr, list_cells, list_ro, partS_none, lenSl_of, lenStr_of, cvInt_of, aminmax_max, aminmax_min, abin_add, abin_sub, abin_mul, abin_eql, abin_neq, abin_lss, abin_leq, abin_gtr, abin_geq, aunary_not, aextract], by simp [FT.get_set, FT.setL, faS_ptr, nilS_ptr, nilS_func, nilS_yield, pickS_bool, ldS_ptr, list_cells, list_ro, partS_none, lenSl_of, lenStr_of, cvInt_of, aminmax_max, aminmax_min, abin_add, abin_sub, abin_mul, abin_eql, abin_neq, abin_lss, abin_leq, abin_gtr, abin_geq, aunary_not, aextract], by simp [FT.get_set, FT.setL, faS_ptr, nilS_ptr, nilS_func, nilS_yield, pickS_bool, ldS_ptr, list_cells, list_ro, partS_none, lenSl_of, lenStr_of, cvInt_of, aminmax_max, aminmax_min, abin_add, abin_sub, abin_mul, abin_eql, abin_neq, abin_lss, abin_leq, abin_gtr, abin_geq, aunary_not, aextract]⟩
  obtain ⟨t0, t1, t2⟩ := ht _ rfl
  rw [t0, t1, t2]
  refine callM_wf_post (base25 h (by omega) fun v1 S1 f1 s1 wf1 => ?_)
  have hv1 := hv.keep wf f1.2
  have h1 := h.old wf f1
  have hw1 : SlF svF 1 S1 B' w rl := hw.keep fun y k hk => f1.2 y (wf _ _ hk)
  have hb1 := hb.keep wf f1.2
  have hwl := wsum_len rs
  refine bytes24' (RB.own s1) hv1 ⟨(base == a), rfl, fun e => ?_, fun e => ?_⟩
  · have ea : base = a := by simpa using e
    refine callM_wf_post (records13 h1 (by omega) fun v2 rl2 S2 f2 s2 r2 wf2 => ?_)
    have hw2 : SlF svF 1 S2 B' w rl := hw1.keep fun y k hk => f2.2 y (wf1 _ _ hk)
    have hb2 := hb1.keep wf1 f2.2
    have hv2 := hv1.keep wf1 f2.2
    have h2 := h1.old wf1 f2
    rw [e]
    refine lists26 s2 r2 hw2 hb2 (by omega) ⟨.bool (rs == l), rfl, (rs == l), rfl, fun e2 => ?_, fun e2 => ?_⟩
    · have el : rs = l := by simpa using e2
      refine live27 h2 (by omega) (weight17 hv2 hw2 hb2 (by rw [← ea, ← el]; omega) ⟨.bool true, ?_, .bool true, by rw [e2]; rfl, m_ret ?_⟩)
      · rw [abin_eql, ea, el, beq_self_eq_true]
      · simp [resM, FT.get_set, FT.setL, faS_ptr, nilS_ptr, nilS_func, nilS_yield, pickS_bool, ldS_ptr, list_cells, list_ro, partS_none, lenSl_of, lenStr_of, cvInt_of, aminmax_max, aminmax_min, abin_add, abin_sub, abin_mul, abin_eql, abin_neq, abin_lss, abin_leq, abin_gtr, abin_geq, aunary_not, aextract, oneOrTuple]
        have := hq S2 (f1.trans f2)
        rw [decide_eq_true ⟨ea, el⟩] at this
        exact this
    · refine ⟨.bool false, by rw [e2]; rfl, m_ret ?_⟩
      simp [resM, FT.get_set, FT.setL, faS_ptr, nilS_ptr, nilS_func, nilS_yield, pickS_bool, ldS_ptr, list_cells, list_ro, partS_none, lenSl_of, lenStr_of, cvInt_of, aminmax_max, aminmax_min, abin_add, abin_sub, abin_mul, abin_eql, abin_neq, abin_lss, abin_leq, abin_gtr, abin_geq, aunary_not, aextract, oneOrTuple]
      have := hq S2 (f1.trans f2)
      rw [decide_eq_false (by rintro ⟨_, rfl⟩; simp at e2)] at this
      exact this
  · rw [e]
    refine ⟨.bool false, rfl, false, rfl, ff, fun _ => ⟨.bool false, rfl, m_ret ?_⟩⟩
    simp [resM, FT.get_set, FT.setL, faS_ptr, nilS_ptr, nilS_func, nilS_yield, pickS_bool, ldS_ptr, list_cells, list_ro, partS_none, lenSl_of, lenStr_of, cvInt_of, aminmax_max, aminmax_min, abin_add, abin_sub, abin_mul, abin_eql, abin_neq, abin_lss, abin_leq, abin_gtr, abin_geq, aunary_not, aextract, oneOrTuple]
    have := hq S1 f1
    rw [decide_eq_false (by rintro ⟨rfl, _⟩; simp at e)] at this
    exact this
end Go.Proofs.Ytmfmbadfgnhonaa
namespace Go.Proofs.Ytmfmbadfgnhonaa
open Go Go.Ag
set_option linter.unusedVariables false
set_option maxRecDepth 100000

theorem under28 : Try.prog.underlying 28 = some (.pointer 66) := by kernel_rfl
theorem HW.lens {S : MS} {D : DK} {c0 : Nat → List UInt8} {W : List (Nat × List UInt8)} (h : HW S D c0 W) : Len D.made.length (appC c0 W) := fun i hi => (h.holds i hi).1

theorem appW_len {n half : Nat} {base b : List UInt8} {rs : List (List UInt8)} (h : b.length ≤ 65536) : (appW n half base rs b).length ≤ 300 := by
  have := lastB_len base rs b
  unfold appW
  rw [List.length_append, piecesN_len]
  unfold pieceK
  simp only [List.length_cons, List.length_nil]
  omega
theorem snapW_len {n half : Nat} {b : List UInt8} (h : b.length ≤ 65536) : (snapW n half b).length ≤ 300 := by
  have := laid_len b
  unfold snapW
  rw [List.length_append, piecesN_len]
  unfold pieceK
  simp only [List.length_cons, List.length_nil]
  omega
theorem formW_len {n : Nat} {b : List UInt8} (h : b.length ≤ 65536) : (formW n b).length ≤ 301 := by
  have := @snapW_len n 0 b h
  unfold formW
  simp only [List.length_cons]
  omega
theorem formW_says {n : Nat} {c : Nat → List UInt8} (hl : Len n c) (hn : 64 ≤ n) (b : List UInt8) (hb : b.length + 8 ≤ 32 * n) : Says n (appC c (formW n b)) 0 (liveN b []) b [] := by
  have e : appC c (formW n b) = appC (fun j => if j = 0 then List.replicate 256 0 else c j) (snapW n 0 b) := rfl
  rw [e]
  unfold snapW
  refine snap_all (fun i hi => ?_) (by omega) (by omega) b (by rw [laid_len]; omega)
  show (if i = 0 then List.replicate 256 0 else c i).length = 256
  split
  · rw [List.length_replicate]
  · exact hl i hi

/-- a new disk -/
theorem newW {S : MS} (n a : Nat) (d : Nat) (h : IsD S d (newDK a n)) : HW S (newDK a n) (fun _ => List.replicate 256 0) [] := by
  refine ⟨fun i hi => ⟨by simp, none, ?_, ?_⟩, rfl, rfl, fun k w x h1 => by cases h1⟩
  · have : i < n := by simpa [newDK] using hi
    simp [newDK, this]
  · exact ⟨by rw [bL_len]; simp, bL_one _, bL_rep 256⟩
end Go.Proofs.Ytmfmbadfgnhonaa
namespace Go.Proofs.Ytmfmbadfgnhonaa
open Go Go.Ag
set_option linter.unusedVariables false
set_option maxRecDepth 100000

/-! ### how arguments read -/
theorem under3 : Try.prog.underlying 3 = some (.int .i64) := by kernel_rfl
theorem under5 : Try.prog.underlying 5 = some (.int .u8) := by kernel_rfl
theorem under37 : Try.prog.underlying 37 = some (.slice 40) := by kernel_rfl
theorem cells5 : Try.prog.cellsOf 5 = 1 := by kernel_rfl
theorem cells3 : Try.prog.cellsOf 3 = 1 := by kernel_rfl
theorem cells32 : Try.prog.cellsOf 32 = 1 := by kernel_rfl
theorem cells40 : Try.prog.cellsOf 40 = 3 := by kernel_rfl
section
variable {H : Type} {S : MS}
theorem rd_int {t : TypeId} {k : IntKind} (hu : Try.prog.underlying t = some (.int k)) {cs : List Value} {d : DataW H} (h : RdS Try.prog S t cs d) : ∃ n, cs = [.int k n] ∧ (Lit.int k n).wf = true := by
  cases h with
  | int hu' hw => rw [hu] at hu'; cases hu'; exact ⟨_, rfl, hw⟩
  | bool hu' => rw [hu] at hu'; cases hu'
  | string hu' _ => rw [hu] at hu'; cases hu'
  | sliceNil hu' => rw [hu] at hu'; cases hu'
  | sliceZ hu' => rw [hu] at hu'; cases hu'
  | slice vs hu' => rw [hu] at hu'; cases hu'
  | struct hu' => rw [hu] at hu'; cases hu'
theorem list_of_each {α : Type} {p : Nat → α → Prop} : ∀ n, (∀ k, k < n → ∃ x, p k x) → ∃ xs : List α, xs.length = n ∧ ∀ (k : Nat) x, xs[k]? = some x → p k x := by
  intro n
  induction n with
  | zero => intro _; exact ⟨[], rfl, fun k x h => by cases h⟩
  | succ n ih =>
    intro h
    obtain ⟨xs, h1, h2⟩ := ih fun k hk => h k (by omega)
    obtain ⟨x, hx⟩ := h n (by omega)
    refine ⟨xs ++ [x], by simp [h1], fun k y hy => ?_⟩
    rw [List.getElem?_append] at hy
    split at hy
    · exact h2 k y hy
    · rename_i hk
      have : k = n := by have := (List.getElem?_eq_some_iff.1 hy).1; simp at this; omega
      subst this
      simp [h1] at hy
      subst hy; exact hx

theorem flat_at {n : Nat} : ∀ (vs : List (List Value)) (k : Nat) (x : List Value), (∀ y ∈ vs, y.length = n) → vs[k]? = some x → ((vs.flatten.drop (k * n)).take n = x ∧ k * n + n ≤ vs.flatten.length) := by
  intro vs
  induction vs with
  | nil => intro k x _ h; cases h
  | cons v vs ih =>
    intro k x hn h
    have hv := hn v (by simp)
    cases k with
    | zero => cases h; simp [hv]
    | succ k =>
      obtain ⟨g1, g2⟩ := ih k x (fun y hy => hn y (by simp [hy])) h
      have e : (k + 1) * n = v.length + k * n := by rw [hv, Nat.succ_mul]; omega
      refine ⟨?_, ?_⟩
      · rw [List.flatten_cons, e, ← List.drop_drop, List.drop_left']
        · exact g1
        · rfl
      · rw [List.flatten_cons, List.length_append, e]; omega


theorem flat1 : ∀ (vs : List (List Value)), (∀ y ∈ vs, y.length = 1) → vs.flatten.length = vs.length ∧ ∀ (k : Nat), vs.flatten[k]? = (vs[k]?).bind (·[0]?) := by
  intro vs
  induction vs with
  | nil => intro _; exact ⟨rfl, fun k => rfl⟩
  | cons v vs ih =>
    intro h
    have hv := h v (by simp)
    obtain ⟨h1, h2⟩ := ih fun y hy => h y (by simp [hy])
    match v, hv with
    | [x], _ =>
      refine ⟨by simp [h1], fun k => ?_⟩
      cases k with
      | zero => rfl
      | succ k => simpa using h2 k
theorem unk_reach : reachBytes < unk := by decide
/-- bytes -/
theorem rd_bytes {cs : List Value} {d : DataW H} (h : RdS Try.prog S 32 cs d) : ∃ v bs, cs = [v] ∧ RB S v bs ∧ bs.length ≤ reachBytes ∧ ∀ y, On v y → ∃ l, S.m y = some (.ro l) := by
  cases h with
  | bool hu' => rw [under32] at hu'; cases hu'
  | int hu' => rw [under32] at hu'; cases hu'
  | string hu' _ => rw [under32] at hu'; cases hu'
  | struct hu' => rw [under32] at hu'; cases hu'
  | sliceNil hu' => exact ⟨_, [], rfl, .nil, Nat.zero_le _, fun y ⟨o, n, c, e⟩ => by cases e⟩
  | sliceZ hu' => exact ⟨_, [], rfl, .inr (.inl ⟨rfl, rfl⟩), Nat.zero_le _, fun y ⟨o, n, c, e⟩ => by cases e⟩
  | slice vs hu hcap hlen hmax he hs hvs hb hsz hr =>
    rename_i e b len cap elems spare
    rw [under32] at hu; cases hu
    rw [cells5] at hsz
    have hst : ∀ k, k < len → ∃ x : UInt8, vs[k]? = some [.int .u8 x.toNat] := by
      intro k hk
      have hkv : k < vs.length := by omega
      have hkd : k < (elems ++ spare).length := by rw [List.length_append]; omega
      obtain ⟨n, h1, h2⟩ := rd_int under5 (hr k _ _ (List.getElem?_eq_getElem hkv) (List.getElem?_eq_getElem hkd))
      simp [Lit.wf, IntKind.min, IntKind.max, IntKind.signed, IntKind.bits] at h2
      refine ⟨UInt8.ofNat n.toNat, ?_⟩
      rw [List.getElem?_eq_getElem hkv, h1, u8_nat _ (by omega), Int.toNat_of_nonneg (by omega)]
    obtain ⟨bs, hbl, hx⟩ := list_of_each (p := fun k (x : UInt8) => vs[k]? = some [.int .u8 x.toNat]) len hst
    obtain ⟨f1, f2⟩ := flat1 vs hsz
    have hlr := unk_reach
    refine ⟨_, bs, rfl, .inr (.inr ⟨b, 0, cap, vs.flatten, by rw [hbl], list_of hb, by omega, ?_, by omega, .inl (by omega)⟩), by omega, fun y ⟨o, n, c, e⟩ => by cases e; exact ⟨_, hb⟩⟩
    refine List.ext_getElem? fun k => ?_
    rw [List.getElem?_take, List.drop_zero]
    by_cases hk : k < bs.length
    · obtain ⟨x, hxk⟩ : ∃ x, bs[k]? = some x := ⟨_, List.getElem?_eq_getElem hk⟩
      rw [if_pos hk, f2, hx k x hxk, bL_get hxk]; rfl
    · rw [if_neg hk, List.getElem?_eq_none (by rw [bL_len]; omega)]
theorem rd_sv {t : TypeId} {cs : List Value} {d : DataW H} {v : Value} (h : (∃ fs, Try.prog.underlying t = some (.struct fs)) ∧ v = .agg cs.toArray ∨ (∀ fs, Try.prog.underlying t ≠ some (.struct fs)) ∧ cs = [v]) (hu : ∀ fs, Try.prog.underlying t ≠ some (.struct fs)) : cs = [v] := by
  rcases h with ⟨⟨fs, hf⟩, _⟩ | ⟨_, h⟩
  · exact absurd hf (hu fs)
  · exact h
theorem three {P : Program} {t1 t2 t3 : TypeId} {vs : List Value} {ds : List (DataW H)} (h : RdSAll P S [t1, t2, t3] vs ds) : ∃ a b c d1 d2 d3, vs = [a, b, c] ∧ ds = [d1, d2, d3] := by
  rcases vs with _ | ⟨a, _ | ⟨b, _ | ⟨c, _ | ⟨e, vs⟩⟩⟩⟩ <;> rcases ds with _ | ⟨d1, _ | ⟨d2, _ | ⟨d3, _ | ⟨d4, ds⟩⟩⟩⟩ <;> first | exact h.elim | exact h.2.elim | exact h.2.2.elim | exact h.2.2.2.elim | exact ⟨_, _, _, _, _, _, rfl, rfl⟩
end
end Go.Proofs.Ytmfmbadfgnhonaa

