/-
  The walk through the journal's code: what its functions do to memory, part FmJ28. Nothing is asked.
-/
import Derived.Test.YtmfmbadfgnhonaaFmJ27
set_option linter.all false
namespace Go.Proofs.Ytmfmbadfgnhonaa
open Go Go.Ag
set_option linter.unusedVariables false
set_option maxRecDepth 100000

theorem take_eq_step {α : Type} (a b : List α) (i : Nat) (h : a.take i = b.take i) {x y : α} (ha : a[i]? = some x) (hb : b[i]? = some y) (e : x = y) : a.take (i + 1) = b.take (i + 1) := by
  rw [List.take_add_one, List.take_add_one, h, ha, hb, e]

def LI26 (S : MS) (v w : Value) (a b : List (List UInt8)) (m : Nat) (T : FT) (S' : MS) : Prop := ∃ i, i + m = a.length ∧ S' = S ∧ a.take i = b.take i ∧ T.get 0 = v ∧ T.get 1 = w ∧ T.get 5 = .int .i64 i

/-- Lists: are two slices of slices the same? -/
theorem lists26 {S : MS} {B B' : Nat} {v w : Value} {rl rl' : List Sv} {a b : List (List UInt8)} (hv : SlF svF 1 S B v rl) (ha : RBs S rl a) (hw : SlF svF 1 S B' w rl') (hb : RBs S rl' b) (hl : a.length ≤ 1000000) {Q : Value → MS → Prop} (hq : Q (.bool (a == b)) S) : CallM Try.prog O 26 [v, w] S Q := by
  refine callM_body (fnIs is26 body26 res26) (O_none (by decide)) (by simp) ?_
  refine m_seq (m_reg ?_)
  rw [reg26_0]
  refine m_seq (m_seq (m_reg ?_))
  rw [reg26_1]
  have h1 := hv.lenSl
  have h2 := hw.lenSl
  rw [ha.1] at h1
  rw [hb.1] at h2
  simp (decide := true) only [FT.get_set, FT.setL, faS_ptr, nilS_ptr, nilS_func, nilS_yield, pickS_bool, ldS_ptr, list_cells, list_ro, partS_none, lenSl_of, lenStr_of, cvInt_of, aminmax_max, aminmax_min, abin_add, abin_sub, abin_mul, abin_eql, abin_neq, abin_lss, abin_leq, abin_gtr, abin_geq, aunary_not, aextract, Option.some.injEq, Prod.mk.injEq, Value.bool.injEq, exists_eq_left', exists_and_left, and_assoc, decide_eq_true_eq, decide_eq_false_iff_not, if_true, if_false, Nat.zero_add, Nat.add_zero, Option.bind_some, true_and, and_true, forall_const, true_implies, Bool.not_eq_true, Bool.false_eq_true, false_implies, ite_self, Nat.mul_one, h1, h2]
  refine m_cond (t := (a.length : Int) != b.length) (by simp [evalT, FT.get_set, FT.setL, faS_ptr, nilS_ptr, nilS_func, nilS_yield, pickS_bool, ldS_ptr, list_cells, list_ro, partS_none, lenSl_of, lenStr_of, cvInt_of, aminmax_max, aminmax_min, abin_add, abin_sub, abin_mul, abin_eql, abin_neq, abin_lss, abin_leq, abin_gtr, abin_geq, aunary_not, aextract]) (fun hne => ?_) (fun heq => m_skip ?_)
  · refine m_seq (m_reg ?_)
    rw [reg26_2]
    refine m_ret ?_
    simp [resM, FT.get_set, FT.setL, faS_ptr, nilS_ptr, nilS_func, nilS_yield, pickS_bool, ldS_ptr, list_cells, list_ro, partS_none, lenSl_of, lenStr_of, cvInt_of, aminmax_max, aminmax_min, abin_add, abin_sub, abin_mul, abin_eql, abin_neq, abin_lss, abin_leq, abin_gtr, abin_geq, aunary_not, aextract, oneOrTuple]
    have : (a == b) = false := by
      rw [beq_eq_false_iff_ne]
      intro e; subst e; simp at hne
    rw [this] at hq; exact hq
  · have hlen : a.length = b.length := by simp at heq; omega
    simp only
    refine m_seq (m_seq (m_reg ?_))
    rw [reg26_3]
    unfold blk26_0
    refine m_block (m_loop (fun m T S' => LI26 S v w a b m T S') a.length ⟨0, by omega, rfl, rfl, by simp [FT.get_set, FT.setL, faS_ptr, nilS_ptr, nilS_func, nilS_yield, pickS_bool, ldS_ptr, list_cells, list_ro, partS_none, lenSl_of, lenStr_of, cvInt_of, aminmax_max, aminmax_min, abin_add, abin_sub, abin_mul, abin_eql, abin_neq, abin_lss, abin_leq, abin_gtr, abin_geq, aunary_not, aextract], by simp [FT.get_set, FT.setL, faS_ptr, nilS_ptr, nilS_func, nilS_yield, pickS_bool, ldS_ptr, list_cells, list_ro, partS_none, lenSl_of, lenStr_of, cvInt_of, aminmax_max, aminmax_min, abin_add, abin_sub, abin_mul, abin_eql, abin_neq, abin_lss, abin_leq, abin_gtr, abin_geq, aunary_not, aextract], by simp [FT.get_set, FT.setL, faS_ptr, nilS_ptr, nilS_func, nilS_yield, pickS_bool, ldS_ptr, list_cells, list_ro, partS_none, lenSl_of, lenStr_of, cvInt_of, aminmax_max, aminmax_min, abin_add, abin_sub, abin_mul, abin_eql, abin_neq, abin_lss, abin_leq, abin_gtr, abin_geq, aunary_not, aextract]⟩ ?_)
    rintro m T S1 ⟨i, hi, rfl, hpre, t0, t1, t5⟩
    refine m_seq (m_seq (m_reg ?_))
    rw [reg26_4]
    simp (decide := true) only [FT.get_set, FT.setL, faS_ptr, nilS_ptr, nilS_func, nilS_yield, pickS_bool, ldS_ptr, list_cells, list_ro, partS_none, lenSl_of, lenStr_of, cvInt_of, aminmax_max, aminmax_min, abin_add, abin_sub, abin_mul, abin_eql, abin_neq, abin_lss, abin_leq, abin_gtr, abin_geq, aunary_not, aextract, Option.some.injEq, Prod.mk.injEq, Value.bool.injEq, exists_eq_left', exists_and_left, and_assoc, decide_eq_true_eq, decide_eq_false_iff_not, if_true, if_false, Nat.zero_add, Nat.add_zero, Option.bind_some, true_and, and_true, forall_const, true_implies, Bool.not_eq_true, Bool.false_eq_true, false_implies, ite_self, Nat.mul_one, t0, t5, h1]
    refine m_cond (t := decide ((i : Int) < a.length)) (by simp [evalT, FT.get_set, FT.setL, faS_ptr, nilS_ptr, nilS_func, nilS_yield, pickS_bool, ldS_ptr, list_cells, list_ro, partS_none, lenSl_of, lenStr_of, cvInt_of, aminmax_max, aminmax_min, abin_add, abin_sub, abin_mul, abin_eql, abin_neq, abin_lss, abin_leq, abin_gtr, abin_geq, aunary_not, aextract]) (fun hlt => m_skip ?_) (fun hlt => m_exit ?_)
    · have hlt : i < a.length := by have := of_decide_eq_true hlt; omega
      simp only
      obtain ⟨r, hri⟩ : ∃ r, a[i]? = some r := ⟨_, List.getElem?_eq_getElem hlt⟩
      obtain ⟨r', hri'⟩ : ∃ r, b[i]? = some r := ⟨_, List.getElem?_eq_getElem (by omega)⟩
      obtain ⟨x, hxi⟩ : ∃ x, rl[i]? = some x := ⟨_, List.getElem?_eq_getElem (by rw [ha.1]; exact hlt)⟩
      obtain ⟨x', hxi'⟩ : ∃ x, rl'[i]? = some x := ⟨_, List.getElem?_eq_getElem (by rw [hb.1]; omega)⟩
      obtain ⟨p, q1, q2⟩ := SlF.at1 hv hxi
      obtain ⟨p', q1', q2'⟩ := SlF.at1 hw hxi'
      have hs := (ha.2 i x r hxi hri).str
      have hs' := (hb.2 i x' r' hxi' hri').str
      unfold blk26_1
      refine m_seq (m_block (m_seq (m_draw ?_)))
      rw [reg26_6]
      simp (decide := true) only [FT.get_set, FT.setL, faS_ptr, nilS_ptr, nilS_func, nilS_yield, pickS_bool, ldS_ptr, list_cells, list_ro, partS_none, lenSl_of, lenStr_of, cvInt_of, aminmax_max, aminmax_min, abin_add, abin_sub, abin_mul, abin_eql, abin_neq, abin_lss, abin_leq, abin_gtr, abin_geq, aunary_not, aextract, Option.some.injEq, Prod.mk.injEq, Value.bool.injEq, exists_eq_left', exists_and_left, and_assoc, decide_eq_true_eq, decide_eq_false_iff_not, if_true, if_false, Nat.zero_add, Nat.add_zero, Option.bind_some, true_and, and_true, forall_const, true_implies, Bool.not_eq_true, Bool.false_eq_true, false_implies, ite_self, Nat.mul_one, t0, t1, t5, q1, q2, q1', q2', hs, hs', abin_str_neq, ba_list]
      refine m_cond (t := !(r == r')) (by simp [evalT, FT.get_set, FT.setL, faS_ptr, nilS_ptr, nilS_func, nilS_yield, pickS_bool, ldS_ptr, list_cells, list_ro, partS_none, lenSl_of, lenStr_of, cvInt_of, aminmax_max, aminmax_min, abin_add, abin_sub, abin_mul, abin_eql, abin_neq, abin_lss, abin_leq, abin_gtr, abin_geq, aunary_not, aextract]) (fun hne => ?_) (fun heq2 => m_skip ?_)
      · refine m_seq (m_reg ?_)
        rw [reg26_7]
        refine m_ret ?_
        simp [resM, FT.get_set, FT.setL, faS_ptr, nilS_ptr, nilS_func, nilS_yield, pickS_bool, ldS_ptr, list_cells, list_ro, partS_none, lenSl_of, lenStr_of, cvInt_of, aminmax_max, aminmax_min, abin_add, abin_sub, abin_mul, abin_eql, abin_neq, abin_lss, abin_leq, abin_gtr, abin_geq, aunary_not, aextract, oneOrTuple]
        have : (a == b) = false := by
          rw [beq_eq_false_iff_ne]
          intro e; subst e
          rw [hri] at hri'; cases hri'; simp at hne
        rw [this] at hq; exact hq
      · simp only
        have e : r = r' := by simpa using heq2
        refine m_reg ?_
        rw [reg26_5]
        have hwi : IntKind.i64.wrap ((i : Int) + 1) = ((i + 1 : Nat) : Int) := by rw [wrap_i64 (by omega) (by omega)]; rfl
        simp (decide := true) only [FT.get_set, FT.setL, faS_ptr, nilS_ptr, nilS_func, nilS_yield, pickS_bool, ldS_ptr, list_cells, list_ro, partS_none, lenSl_of, lenStr_of, cvInt_of, aminmax_max, aminmax_min, abin_add, abin_sub, abin_mul, abin_eql, abin_neq, abin_lss, abin_leq, abin_gtr, abin_geq, aunary_not, aextract, Option.some.injEq, Prod.mk.injEq, Value.bool.injEq, exists_eq_left', exists_and_left, and_assoc, decide_eq_true_eq, decide_eq_false_iff_not, if_true, if_false, Nat.zero_add, Nat.add_zero, Option.bind_some, true_and, and_true, forall_const, true_implies, Bool.not_eq_true, Bool.false_eq_true, false_implies, ite_self, Nat.mul_one, t5, hwi]
        exact ⟨m - 1, by omega, i + 1, by omega, rfl, take_eq_step a b i hpre hri hri' e, by simp [FT.get_set, FT.setL, faS_ptr, nilS_ptr, nilS_func, nilS_yield, pickS_bool, ldS_ptr, list_cells, list_ro, partS_none, lenSl_of, lenStr_of, cvInt_of, aminmax_max, aminmax_min, abin_add, abin_sub, abin_mul, abin_eql, abin_neq, abin_lss, abin_leq, abin_gtr, abin_geq, aunary_not, aextract, t0], by simp [FT.get_set, FT.setL, faS_ptr, nilS_ptr, nilS_func, nilS_yield, pickS_bool, ldS_ptr, list_cells, list_ro, partS_none, lenSl_of, lenStr_of, cvInt_of, aminmax_max, aminmax_min, abin_add, abin_sub, abin_mul, abin_eql, abin_neq, abin_lss, abin_leq, abin_gtr, abin_geq, aunary_not, aextract, t1], by simp [FT.get_set, FT.setL, faS_ptr, nilS_ptr, nilS_func, nilS_yield, pickS_bool, ldS_ptr, list_cells, list_ro, partS_none, lenSl_of, lenStr_of, cvInt_of, aminmax_max, aminmax_min, abin_add, abin_sub, abin_mul, abin_eql, abin_neq, abin_lss, abin_leq, abin_gtr, abin_geq, aunary_not, aextract]⟩
    · have : i = a.length := by have := of_decide_eq_false hlt; omega
      subst this
      have e : a = b := by
        rw [List.take_length] at hpre
        rw [hpre, hlen, List.take_length]
      simp only [if_true]
      refine m_seq (m_reg ?_)
      rw [reg26_8]
      refine m_ret ?_
      simp [resM, FT.get_set, FT.setL, faS_ptr, nilS_ptr, nilS_func, nilS_yield, pickS_bool, ldS_ptr, list_cells, list_ro, partS_none, lenSl_of, lenStr_of, cvInt_of, aminmax_max, aminmax_min, abin_add, abin_sub, abin_mul, abin_eql, abin_neq, abin_lss, abin_leq, abin_gtr, abin_geq, aunary_not, aextract, oneOrTuple]
      rw [e, beq_self_eq_true] at hq; exact hq

def WI17 (S : MS) (v w : Value) (base : List UInt8) (l : List (List UInt8)) (m : Nat) (T : FT) (S' : MS) : Prop := ∃ i, i + m = l.length ∧ S' = S ∧ T.get 1 = w ∧ T.get 5 = .int .i64 (liveN base (l.take i) : Nat) ∧ T.get 6 = .int .i64 i

/-- weight, of what the law keeps -/
theorem weight17 {S : MS} {B : Nat} {v w : Value} {rl : List Sv} {base : List UInt8} {l : List (List UInt8)} (hv : RB S v base) (hw : SlF svF 1 S B w rl) (hb : RBs S rl l) (hl : liveN base l ≤ 4611686018427387904) {Q : Value → MS → Prop} (hq : Q (.int .i64 (liveN base l : Nat)) S) : CallM Try.prog O 17 [v, w] S Q := by
  refine callM_body (fnIs is17 body17 res17) (O_none (by decide)) (by simp) ?_
  refine m_seq (m_reg ?_)
  rw [reg17_0]
  refine m_seq (m_reg ?_)
  rw [reg17_1]
  have hl2 := hl
  unfold liveN at hl2
  have hw0 : IntKind.i64.wrap ((base.length : Int) + 8) = ((liveN base (l.take 0) : Nat) : Int) := by unfold liveN; rw [wrap_i64 (by omega) (by omega)]; simp [wsum]
  simp (decide := true) only [FT.get_set, FT.setL, faS_ptr, nilS_ptr, nilS_func, nilS_yield, pickS_bool, ldS_ptr, list_cells, list_ro, partS_none, lenSl_of, lenStr_of, cvInt_of, aminmax_max, aminmax_min, abin_add, abin_sub, abin_mul, abin_eql, abin_neq, abin_lss, abin_leq, abin_gtr, abin_geq, aunary_not, aextract, Option.some.injEq, Prod.mk.injEq, Value.bool.injEq, exists_eq_left', exists_and_left, and_assoc, decide_eq_true_eq, decide_eq_false_iff_not, if_true, if_false, Nat.zero_add, Nat.add_zero, Option.bind_some, true_and, and_true, forall_const, true_implies, Bool.not_eq_true, Bool.false_eq_true, false_implies, ite_self, Nat.mul_one, hv.len, hw0]
  refine m_seq (m_seq (m_reg ?_))
  rw [reg17_2]
  have h2 := hw.lenSl
  rw [hb.1] at h2
  have hwl := wsum_len l
  refine m_block (m_loop (fun m T S' => WI17 S v w base l m T S') l.length ⟨0, by omega, rfl, by simp [FT.get_set, FT.setL, faS_ptr, nilS_ptr, nilS_func, nilS_yield, pickS_bool, ldS_ptr, list_cells, list_ro, partS_none, lenSl_of, lenStr_of, cvInt_of, aminmax_max, aminmax_min, abin_add, abin_sub, abin_mul, abin_eql, abin_neq, abin_lss, abin_leq, abin_gtr, abin_geq, aunary_not, aextract], by simp [FT.get_set, FT.setL, faS_ptr, nilS_ptr, nilS_func, nilS_yield, pickS_bool, ldS_ptr, list_cells, list_ro, partS_none, lenSl_of, lenStr_of, cvInt_of, aminmax_max, aminmax_min, abin_add, abin_sub, abin_mul, abin_eql, abin_neq, abin_lss, abin_leq, abin_gtr, abin_geq, aunary_not, aextract], by simp [FT.get_set, FT.setL, faS_ptr, nilS_ptr, nilS_func, nilS_yield, pickS_bool, ldS_ptr, list_cells, list_ro, partS_none, lenSl_of, lenStr_of, cvInt_of, aminmax_max, aminmax_min, abin_add, abin_sub, abin_mul, abin_eql, abin_neq, abin_lss, abin_leq, abin_gtr, abin_geq, aunary_not, aextract]⟩ ?_)
  rintro m T S1 ⟨i, hi, rfl, t1, t5, t6⟩
  refine m_seq (m_seq (m_reg ?_))
  rw [reg17_3]
  simp (decide := true) only [FT.get_set, FT.setL, faS_ptr, nilS_ptr, nilS_func, nilS_yield, pickS_bool, ldS_ptr, list_cells, list_ro, partS_none, lenSl_of, lenStr_of, cvInt_of, aminmax_max, aminmax_min, abin_add, abin_sub, abin_mul, abin_eql, abin_neq, abin_lss, abin_leq, abin_gtr, abin_geq, aunary_not, aextract, Option.some.injEq, Prod.mk.injEq, Value.bool.injEq, exists_eq_left', exists_and_left, and_assoc, decide_eq_true_eq, decide_eq_false_iff_not, if_true, if_false, Nat.zero_add, Nat.add_zero, Option.bind_some, true_and, and_true, forall_const, true_implies, Bool.not_eq_true, Bool.false_eq_true, false_implies, ite_self, Nat.mul_one, t1, t6, h2]
  refine m_cond (t := decide ((i : Int) < l.length)) (by simp [evalT, FT.get_set, FT.setL, faS_ptr, nilS_ptr, nilS_func, nilS_yield, pickS_bool, ldS_ptr, list_cells, list_ro, partS_none, lenSl_of, lenStr_of, cvInt_of, aminmax_max, aminmax_min, abin_add, abin_sub, abin_mul, abin_eql, abin_neq, abin_lss, abin_leq, abin_gtr, abin_geq, aunary_not, aextract]) (fun hlt => m_skip ?_) (fun hlt => m_exit ?_)
  · have hlt : i < l.length := by have := of_decide_eq_true hlt; omega
    simp only
    obtain ⟨r, hri⟩ : ∃ r, l[i]? = some r := ⟨_, List.getElem?_eq_getElem hlt⟩
    obtain ⟨x, hxi⟩ : ∃ x, rl[i]? = some x := ⟨_, List.getElem?_eq_getElem (by rw [hb.1]; exact hlt)⟩
    obtain ⟨p, q1, q2⟩ := SlF.at1 hw hxi
    have hrb := hb.2 i x r hxi hri
    have htk : l.take (i + 1) = l.take i ++ [r] := by rw [List.take_add_one, hri]; rfl
    have hsum : liveN base (l.take (i + 1)) = liveN base (l.take i) + (r.length + 8) := by rw [htk, liveN_snoc]
    have hle := wsum_take_le l (i + 1)
    have hle2 : liveN base (l.take (i + 1)) ≤ liveN base l := by unfold liveN; omega
    refine m_seq (m_block (m_reg ?_))
    rw [reg17_5]
    have e1 : IntKind.i64.wrap (((liveN base (l.take i) : Nat) : Int) + (r.length : Int)) = ((liveN base (l.take i) + r.length : Nat) : Int) := by rw [wrap_i64 (by omega) (by omega)]; rfl
    have e2 : IntKind.i64.wrap (((liveN base (l.take i) + r.length : Nat) : Int) + 8) = ((liveN base (l.take (i + 1)) : Nat) : Int) := by rw [wrap_i64 (by omega) (by omega)]; omega
    simp (decide := true) only [FT.get_set, FT.setL, faS_ptr, nilS_ptr, nilS_func, nilS_yield, pickS_bool, ldS_ptr, list_cells, list_ro, partS_none, lenSl_of, lenStr_of, cvInt_of, aminmax_max, aminmax_min, abin_add, abin_sub, abin_mul, abin_eql, abin_neq, abin_lss, abin_leq, abin_gtr, abin_geq, aunary_not, aextract, Option.some.injEq, Prod.mk.injEq, Value.bool.injEq, exists_eq_left', exists_and_left, and_assoc, decide_eq_true_eq, decide_eq_false_iff_not, if_true, if_false, Nat.zero_add, Nat.add_zero, Option.bind_some, true_and, and_true, forall_const, true_implies, Bool.not_eq_true, Bool.false_eq_true, false_implies, ite_self, Nat.mul_one, t1, t5, t6, q1, q2, hrb.len, e1, e2]
    refine m_reg ?_
    rw [reg17_4]
    have hwi : IntKind.i64.wrap ((i : Int) + 1) = ((i + 1 : Nat) : Int) := by rw [wrap_i64 (by omega) (by omega)]; rfl
    simp (decide := true) only [FT.get_set, FT.setL, faS_ptr, nilS_ptr, nilS_func, nilS_yield, pickS_bool, ldS_ptr, list_cells, list_ro, partS_none, lenSl_of, lenStr_of, cvInt_of, aminmax_max, aminmax_min, abin_add, abin_sub, abin_mul, abin_eql, abin_neq, abin_lss, abin_leq, abin_gtr, abin_geq, aunary_not, aextract, Option.some.injEq, Prod.mk.injEq, Value.bool.injEq, exists_eq_left', exists_and_left, and_assoc, decide_eq_true_eq, decide_eq_false_iff_not, if_true, if_false, Nat.zero_add, Nat.add_zero, Option.bind_some, true_and, and_true, forall_const, true_implies, Bool.not_eq_true, Bool.false_eq_true, false_implies, ite_self, Nat.mul_one, t6, hwi]
    exact ⟨m - 1, by omega, i + 1, by omega, rfl, by simp [FT.get_set, FT.setL, faS_ptr, nilS_ptr, nilS_func, nilS_yield, pickS_bool, ldS_ptr, list_cells, list_ro, partS_none, lenSl_of, lenStr_of, cvInt_of, aminmax_max, aminmax_min, abin_add, abin_sub, abin_mul, abin_eql, abin_neq, abin_lss, abin_leq, abin_gtr, abin_geq, aunary_not, aextract, t1], by simp [FT.get_set, FT.setL, faS_ptr, nilS_ptr, nilS_func, nilS_yield, pickS_bool, ldS_ptr, list_cells, list_ro, partS_none, lenSl_of, lenStr_of, cvInt_of, aminmax_max, aminmax_min, abin_add, abin_sub, abin_mul, abin_eql, abin_neq, abin_lss, abin_leq, abin_gtr, abin_geq, aunary_not, aextract], by simp [FT.get_set, FT.setL, faS_ptr, nilS_ptr, nilS_func, nilS_yield, pickS_bool, ldS_ptr, list_cells, list_ro, partS_none, lenSl_of, lenStr_of, cvInt_of, aminmax_max, aminmax_min, abin_add, abin_sub, abin_mul, abin_eql, abin_neq, abin_lss, abin_leq, abin_gtr, abin_geq, aunary_not, aextract]⟩
  · have : i = l.length := by have := of_decide_eq_false hlt; omega
    subst this
    rw [List.take_length] at t5
    simp only [if_true]
    refine m_seq (m_reg ?_)
    rw [reg17_6]
    refine m_ret ?_
    simp [resM, FT.get_set, FT.setL, faS_ptr, nilS_ptr, nilS_func, nilS_yield, pickS_bool, ldS_ptr, list_cells, list_ro, partS_none, lenSl_of, lenStr_of, cvInt_of, aminmax_max, aminmax_min, abin_add, abin_sub, abin_mul, abin_eql, abin_neq, abin_lss, abin_leq, abin_gtr, abin_geq, aunary_not, aextract, oneOrTuple, t5]
    exact hq

/-- alike: has a journal this base, these records? -/
theorem alike20 {S : MS} {j d B B' half end' : Nat} {base tail : List UInt8} {rs : List (List UInt8)} {dead : Bool} (h : IsJ S j d B half end' base rs tail dead) (hl : liveN base rs ≤ 400000) {v w : Value} {rl : List Sv} {a : List UInt8} {l : List (List UInt8)} (hv : RB S v a) (hw : SlF svF 1 S B' w rl) (hb : RBs S rl l) {Q : Value → MS → Prop} (hq : ∀ S', Old S S' → Q (.bool (decide (base = a ∧ rs = l))) S') : CallM Try.prog O 20 [.pointer (some ⟨j, 0, none⟩), v, w] S Q := by
  refine callM_wf fun wf => ?_
  have hl2 := hl
  unfold liveN at hl2
  refine callM_body (fnIs is20 body20 res20) (O_none (by decide)) (by simp) ?_
  refine m_seq (m_reg ?_)
  rw [reg20_0]
  refine m_seq (m_reg ?_)
  rw [reg20_1]
  have ht : ∀ (T : FT), T = (FT.empty.setL 0 [.pointer (some ⟨j, 0, none⟩), v, w]).set (.bool false) 6 → T.get 0 = .pointer (some ⟨j, 0, none⟩) ∧ T.get 1 = v ∧ T.get 2 = w := by
    rintro T rfl
    refine ⟨by simp [FT.get_set, FT.setL, faS_ptr, nilS_ptr, nilS_func, nilS_yield, pickS_bool, ldS_ptr, list_cells, list_ro, partS_none, lenSl_of, lenStr_of, cvInt_of, aminmax_max, aminmax_min, abin_add, abin_sub, abin_mul, abin_eql, abin_neq, abin_lss, abin_leq, abin_gtr, abin_geq, aunary_not, aextract], by simp [FT.get_set, FT.setL, faS_ptr, nilS_ptr, nilS_func, nilS_yield, pickS_bool, ldS_ptr, list_cells, list_ro, partS_none, lenSl_of, lenStr_of, cvInt_of, aminmax_max, aminmax_min, abin_add, abin_sub, abin_mul, abin_eql, abin_neq, abin_lss, abin_leq, abin_gtr, abin_geq, aunary_not, aextract], by simp [FT.get_set, FT.setL, faS_ptr, nilS_ptr, nilS_func, nilS_yield, pickS_bool, ldS_ptr, list_cells, list_ro, partS_none, lenSl_of, lenStr_of, cvInt_of, aminmax_max, aminmax_min, abin_add, abin_sub, abin_mul, abin_eql, abin_neq, abin_lss, abin_leq, abin_gtr, abin_geq, aunary_not, aextract]⟩
  obtain ⟨t0, t1, t2⟩ := ht _ rfl
  rw [t0, t1, t2]
  refine callM_wf_post (base25 h (by omega) fun v1 S1 f1 s1 wf1 => ?_)
  have hv1 := hv.keep wf f1.2
  have h1 := h.old wf f1
  have hw1 : SlF svF 1 S1 B' w rl := hw.keep fun y k hk => f1.2 y (wf _ _ hk)
  have hb1 := hb.keep wf f1.2
  have hwl := wsum_len rs
  refine bytes24' (RB.own s1) hv1 ⟨(base == a), rfl, fun e => ?_, fun e => ?_⟩
  · have ea : base = a := by simpa using e
    refine callM_wf_post (records13 h1 (by omega) fun v2 rl2 S2 f2 s2 r2 wf2 => ?_)
    have hw2 : SlF svF 1 S2 B' w rl := hw1.keep fun y k hk => f2.2 y (wf1 _ _ hk)
    have hb2 := hb1.keep wf1 f2.2
    have hv2 := hv1.keep wf1 f2.2
    have h2 := h1.old wf1 f2
    rw [e]
    refine lists26 s2 r2 hw2 hb2 (by omega) ⟨.bool (rs == l), rfl, (rs == l), rfl, fun e2 => ?_, fun e2 => ?_⟩
    · have el : rs = l := by simpa using e2
      refine live27 h2 (by omega) (weight17 hv2 hw2 hb2 (by rw [← ea, ← el]; omega) ⟨.bool true, ?_, .bool true, by rw [e2]; rfl, m_ret ?_⟩)
      · rw [abin_eql, ea, el, beq_self_eq_true]
      · simp [resM, FT.get_set, FT.setL, faS_ptr, nilS_ptr, nilS_func, nilS_yield, pickS_bool, ldS_ptr, list_cells, list_ro, partS_none, lenSl_of, lenStr_of, cvInt_of, aminmax_max, aminmax_min, abin_add, abin_sub, abin_mul, abin_eql, abin_neq, abin_lss, abin_leq, abin_gtr, abin_geq, aunary_not, aextract, oneOrTuple]
        have := hq S2 (f1.trans f2)
        rw [decide_eq_true ⟨ea, el⟩] at this
        exact this
    · refine ⟨.bool false, by rw [e2]; rfl, m_ret ?_⟩
      simp [resM, FT.get_set, FT.setL, faS_ptr, nilS_ptr, nilS_func, nilS_yield, pickS_bool, ldS_ptr, list_cells, list_ro, partS_none, lenSl_of, lenStr_of, cvInt_of, aminmax_max, aminmax_min, abin_add, abin_sub, abin_mul, abin_eql, abin_neq, abin_lss, abin_leq, abin_gtr, abin_geq, aunary_not, aextract, oneOrTuple]
      have := hq S2 (f1.trans f2)
      rw [decide_eq_false (by rintro ⟨_, rfl⟩; simp at e2)] at this
      exact this
  · rw [e]
    refine ⟨.bool false, rfl, false, rfl, ff, fun _ => ⟨.bool false, rfl, m_ret ?_⟩⟩
    simp [resM, FT.get_set, FT.setL, faS_ptr, nilS_ptr, nilS_func, nilS_yield, pickS_bool, ldS_ptr, list_cells, list_ro, partS_none, lenSl_of, lenStr_of, cvInt_of, aminmax_max, aminmax_min, abin_add, abin_sub, abin_mul, abin_eql, abin_neq, abin_lss, abin_leq, abin_gtr, abin_geq, aunary_not, aextract, oneOrTuple]
    have := hq S1 f1
    rw [decide_eq_false (by rintro ⟨rfl, _⟩; simp at e)] at this
    exact this
end Go.Proofs.Ytmfmbadfgnhonaa

