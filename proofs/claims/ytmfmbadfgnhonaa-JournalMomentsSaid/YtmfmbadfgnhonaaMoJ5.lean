/-
  The walk through the journal's code: what its functions do to memory, part MoJ5. Nothing is asked.
-/
import Derived.Test.YtmfmbadfgnhonaaMoJ4
set_option linter.all false
namespace Go.Proofs.Ytmfmbadfgnhonaa
open Go Go.Ag
set_option linter.unusedVariables false
set_option maxRecDepth 100000

/-- a slice, as one cell -/
structure Sv where
  a : Option Addr
  n : Nat
  c : Nat
def Sv.v (x : Sv) : Value := .slice x.a x.n x.c
def svF (x : Sv) : List Value := [x.v]
theorem sv_len (x : Sv) : (svF x).length = 1 := rfl
theorem sv_one (x : Sv) : (svF x).all oneCell = true := rfl

theorem fm_get1 {α : Type} {f : α → List Value} (hf : ∀ a, (f a).length = 1) : ∀ (l : List α) (i : Nat) (x : α), l[i]? = some x → (l.flatMap f)[i]? = (f x)[0]? := by
  intro l
  induction l with
  | nil => intro i x h; cases h
  | cons y l ih =>
    intro i x h
    rw [List.flatMap_cons]
    cases i with
    | zero => cases h; rw [List.getElem?_append_left (by rw [hf]; omega)]
    | succ i => rw [List.getElem?_append_right (by rw [hf]; omega), hf, Nat.add_sub_cancel]; exact ih i x h
/-- an element of one cell -/
theorem SlF.at1 {S : MS} {B : Nat} {v : Value} {l : List Sv} {i : Nat} {x : Sv} (h : SlF svF 1 S B v l) (hx : l[i]? = some x) : ∃ p, iaSS 1 v (.int .i64 (i : Int)) = some p ∧ ldS none S p = some x.v := by
  have hlt := (List.getElem?_eq_some_iff.1 hx).1
  cases h with
  | non => cases hx
  | own hb hB hc hj =>
    rename_i b cap junk
    refine ⟨.pointer (some ⟨b, i, none⟩), ?_, ?_⟩
    · rw [iaSS_of (k := .i64) (i := (i : Int)) (by omega) (by omega : (i : Int) < (l.length : Int)), Int.toNat_natCast, Nat.zero_add, Nat.mul_one]
    · rw [ldS_ptr, list_of hb]
      exact fm_get1 sv_len (l ++ junk) i x (by rw [List.getElem?_append_left hlt]; exact hx)

/-- records that are read -/
def RBs (S : MS) (rl : List Sv) (rs : List (List UInt8)) : Prop := rl.length = rs.length ∧ ∀ (i : Nat) x r, rl[i]? = some x → rs[i]? = some r → RB S x.v r
theorem RBs.keep {S S' : MS} {rl : List Sv} {rs : List (List UInt8)} (h : RBs S rl rs) (wf : S.WF) (hk : ∀ x, x < S.n → S'.m x = S.m x) : RBs S' rl rs := ⟨h.1, fun i x r h1 h2 => (h.2 i x r h1 h2).keep wf hk⟩

/-- a journal: where its half is, how many bytes, what it says -/
structure IsJ (S : MS) (j d B : Nat) (half end' : Nat) (base : List UInt8) (rs : List (List UInt8)) (tail : List UInt8) (dead : Bool) : Prop where
  ex : ∃ bv rv tv rl, S.m j = some (.cells (jouL d half end' bv rv tv dead) 0) ∧ RB S bv base ∧ SlF svF 1 S B rv rl ∧ RBs S rl rs ∧ RB S tv tail ∧ Av rv j

def wsum : List (List UInt8) → Nat
  | [] => 0
  | r :: rs => r.length + 8 + wsum rs
theorem wsum_append (a b : List (List UInt8)) : wsum (a ++ b) = wsum a + wsum b := by
  induction a with
  | nil => simp [wsum]
  | cons x a ih => simp [wsum, ih]; omega
theorem wsum_take_le (rs : List (List UInt8)) (i : Nat) : wsum (rs.take i) ≤ wsum rs := by
  conv => rhs; rw [← List.take_append_drop i rs, wsum_append]
  omega
theorem wsum_len (rs : List (List UInt8)) : 8 * rs.length ≤ wsum rs := by
  induction rs with
  | nil => simp [wsum]
  | cons x a ih => simp [wsum]; omega
def liveN (base : List UInt8) (rs : List (List UInt8)) : Nat := base.length + 8 + wsum rs

def LI27 (S : MS) (rv : Value) (base : List UInt8) (rs : List (List UInt8)) (m : Nat) (T : FT) (S' : MS) : Prop := ∃ i : Nat, i + m = rs.length ∧ S' = S ∧ T.get 3 = .int .i64 ((liveN base (rs.take i) : Nat) : Int) ∧ T.get 14 = rv ∧ T.get 15 = .int .i64 rs.length ∧ T.get 16 = .int .i64 i

theorem live27 {S : MS} {j d B half end' : Nat} {base tail : List UInt8} {rs : List (List UInt8)} {dead : Bool} (h : IsJ S j d B half end' base rs tail dead) (hl : liveN base rs ≤ 1000000) {Q : Value → MS → Prop} (hq : Q (.int .i64 (liveN base rs : Nat)) S) : CallM Try.prog O 27 [.pointer (some ⟨j, 0, none⟩)] S Q := by
  obtain ⟨bv, rv, tv, rl, hj, hb, hr, hrs, ht, hav⟩ := h.ex
  refine callM_body (fnIs is27 body27 res27) (O_none (by decide)) (by simp) ?_
  refine m_seq (m_reg ?_)
  rw [reg27_0]
  refine m_seq (m_reg ?_)
  rw [reg27_1]
  have g3 : (jouL d half end' bv rv tv dead)[3]? = some bv := rfl
  have g4 : (jouL d half end' bv rv tv dead)[4]? = some rv := rfl
  have hbl : base.length ≤ 1000000 := by unfold liveN at hl; omega
  simp (decide := true) only [FT.get_set, FT.setL, faS_ptr, nilS_ptr, nilS_func, nilS_yield, pickS_bool, ldS_ptr, list_cells, list_ro, partS_none, lenSl_of, lenStr_of, cvInt_of, aminmax_max, aminmax_min, abin_add, abin_sub, abin_mul, abin_eql, abin_neq, abin_lss, abin_leq, abin_gtr, abin_geq, aunary_not, aextract, Option.some.injEq, Prod.mk.injEq, Value.bool.injEq, exists_eq_left', exists_and_left, and_assoc, decide_eq_true_eq, decide_eq_false_iff_not, if_true, if_false, Nat.zero_add, Nat.add_zero, Option.bind_some, true_and, and_true, forall_const, true_implies, Bool.not_eq_true, Bool.false_eq_true, false_implies, ite_self, Nat.mul_one, list_of hj, g3]
  refine weight21 hb (by omega) ?_
  refine m_seq (m_seq (m_reg ?_))
  rw [reg27_2]
  have hlen := hr.lenSl
  rw [hrs.1] at hlen
  simp (decide := true) only [FT.get_set, FT.setL, faS_ptr, nilS_ptr, nilS_func, nilS_yield, pickS_bool, ldS_ptr, list_cells, list_ro, partS_none, lenSl_of, lenStr_of, cvInt_of, aminmax_max, aminmax_min, abin_add, abin_sub, abin_mul, abin_eql, abin_neq, abin_lss, abin_leq, abin_gtr, abin_geq, aunary_not, aextract, Option.some.injEq, Prod.mk.injEq, Value.bool.injEq, exists_eq_left', exists_and_left, and_assoc, decide_eq_true_eq, decide_eq_false_iff_not, if_true, if_false, Nat.zero_add, Nat.add_zero, Option.bind_some, true_and, and_true, forall_const, true_implies, Bool.not_eq_true, Bool.false_eq_true, false_implies, ite_self, Nat.mul_one, list_of hj, g4, hlen]
  unfold blk27_0
  refine m_block (m_loop (fun m T S' => LI27 S rv base rs m T S') rs.length ⟨0, by omega, rfl, by simp [FT.get_set, FT.setL, faS_ptr, nilS_ptr, nilS_func, nilS_yield, pickS_bool, ldS_ptr, list_cells, list_ro, partS_none, lenSl_of, lenStr_of, cvInt_of, aminmax_max, aminmax_min, abin_add, abin_sub, abin_mul, abin_eql, abin_neq, abin_lss, abin_leq, abin_gtr, abin_geq, aunary_not, aextract, liveN, wsum], by simp [FT.get_set, FT.setL, faS_ptr, nilS_ptr, nilS_func, nilS_yield, pickS_bool, ldS_ptr, list_cells, list_ro, partS_none, lenSl_of, lenStr_of, cvInt_of, aminmax_max, aminmax_min, abin_add, abin_sub, abin_mul, abin_eql, abin_neq, abin_lss, abin_leq, abin_gtr, abin_geq, aunary_not, aextract], by simp [FT.get_set, FT.setL, faS_ptr, nilS_ptr, nilS_func, nilS_yield, pickS_bool, ldS_ptr, list_cells, list_ro, partS_none, lenSl_of, lenStr_of, cvInt_of, aminmax_max, aminmax_min, abin_add, abin_sub, abin_mul, abin_eql, abin_neq, abin_lss, abin_leq, abin_gtr, abin_geq, aunary_not, aextract], by simp [FT.get_set, FT.setL, faS_ptr, nilS_ptr, nilS_func, nilS_yield, pickS_bool, ldS_ptr, list_cells, list_ro, partS_none, lenSl_of, lenStr_of, cvInt_of, aminmax_max, aminmax_min, abin_add, abin_sub, abin_mul, abin_eql, abin_neq, abin_lss, abin_leq, abin_gtr, abin_geq, aunary_not, aextract]⟩ ?_)
  rintro m T S1 ⟨i, hi, rfl, t3, t14, t15, t16⟩
  refine m_seq (m_reg ?_)
  rw [reg27_3]
  simp (decide := true) only [FT.get_set, FT.setL, faS_ptr, nilS_ptr, nilS_func, nilS_yield, pickS_bool, ldS_ptr, list_cells, list_ro, partS_none, lenSl_of, lenStr_of, cvInt_of, aminmax_max, aminmax_min, abin_add, abin_sub, abin_mul, abin_eql, abin_neq, abin_lss, abin_leq, abin_gtr, abin_geq, aunary_not, aextract, Option.some.injEq, Prod.mk.injEq, Value.bool.injEq, exists_eq_left', exists_and_left, and_assoc, decide_eq_true_eq, decide_eq_false_iff_not, if_true, if_false, Nat.zero_add, Nat.add_zero, Option.bind_some, true_and, and_true, forall_const, true_implies, Bool.not_eq_true, Bool.false_eq_true, false_implies, ite_self, Nat.mul_one, t15, t16]
  refine m_seq (m_cond (t := decide ((i : Int) < rs.length)) (by simp [evalT, FT.get_set, FT.setL, faS_ptr, nilS_ptr, nilS_func, nilS_yield, pickS_bool, ldS_ptr, list_cells, list_ro, partS_none, lenSl_of, lenStr_of, cvInt_of, aminmax_max, aminmax_min, abin_add, abin_sub, abin_mul, abin_eql, abin_neq, abin_lss, abin_leq, abin_gtr, abin_geq, aunary_not, aextract]) (fun hlt => m_skip ?_) (fun hlt => m_exit ?_))
  · have hlt : i < rs.length := by have := of_decide_eq_true hlt; omega
    simp only
    obtain ⟨r, hri⟩ : ∃ r, rs[i]? = some r := ⟨_, List.getElem?_eq_getElem hlt⟩
    obtain ⟨x, hxi⟩ : ∃ x, rl[i]? = some x := ⟨_, List.getElem?_eq_getElem (by rw [hrs.1]; exact hlt)⟩
    have hrb := hrs.2 i x r hxi hri
    obtain ⟨p, q1, q2⟩ := SlF.at1 hr hxi
    have htk : rs.take (i + 1) = rs.take i ++ [r] := by rw [List.take_add_one, hri]; rfl
    have hsum : liveN base (rs.take (i + 1)) = liveN base (rs.take i) + (r.length + 8) := by
      unfold liveN; rw [htk, wsum_append]; simp [wsum]; omega
    have hle := wsum_take_le rs (i + 1)
    have hwl := wsum_len rs
    have hl3 := hl
    unfold liveN at hl3
    have hle2 : liveN base (rs.take (i + 1)) ≤ 1000000 := by unfold liveN at hl ⊢; omega
    unfold blk27_1
    refine m_seq (m_block (m_seq (m_reg ?_)))
    rw [reg27_4]
    simp (decide := true) only [FT.get_set, FT.setL, faS_ptr, nilS_ptr, nilS_func, nilS_yield, pickS_bool, ldS_ptr, list_cells, list_ro, partS_none, lenSl_of, lenStr_of, cvInt_of, aminmax_max, aminmax_min, abin_add, abin_sub, abin_mul, abin_eql, abin_neq, abin_lss, abin_leq, abin_gtr, abin_geq, aunary_not, aextract, Option.some.injEq, Prod.mk.injEq, Value.bool.injEq, exists_eq_left', exists_and_left, and_assoc, decide_eq_true_eq, decide_eq_false_iff_not, if_true, if_false, Nat.zero_add, Nat.add_zero, Option.bind_some, true_and, and_true, forall_const, true_implies, Bool.not_eq_true, Bool.false_eq_true, false_implies, ite_self, Nat.mul_one, t14, t16, q1, q2]
    refine m_reg ?_
    rw [reg27_5]
    simp (decide := true) only [FT.get_set, FT.setL, faS_ptr, nilS_ptr, nilS_func, nilS_yield, pickS_bool, ldS_ptr, list_cells, list_ro, partS_none, lenSl_of, lenStr_of, cvInt_of, aminmax_max, aminmax_min, abin_add, abin_sub, abin_mul, abin_eql, abin_neq, abin_lss, abin_leq, abin_gtr, abin_geq, aunary_not, aextract, Option.some.injEq, Prod.mk.injEq, Value.bool.injEq, exists_eq_left', exists_and_left, and_assoc, decide_eq_true_eq, decide_eq_false_iff_not, if_true, if_false, Nat.zero_add, Nat.add_zero, Option.bind_some, true_and, and_true, forall_const, true_implies, Bool.not_eq_true, Bool.false_eq_true, false_implies, ite_self, Nat.mul_one, t3]
    refine weight21 hrb (by omega) ?_
    have hw : IntKind.i64.wrap (((liveN base (rs.take i) : Nat) : Int) + ((r.length + 8 : Nat) : Int)) = ((liveN base (rs.take (i + 1)) : Nat) : Int) := by rw [wrap_i64 (by omega) (by omega), hsum]; rfl
    simp (decide := true) only [FT.get_set, FT.setL, faS_ptr, nilS_ptr, nilS_func, nilS_yield, pickS_bool, ldS_ptr, list_cells, list_ro, partS_none, lenSl_of, lenStr_of, cvInt_of, aminmax_max, aminmax_min, abin_add, abin_sub, abin_mul, abin_eql, abin_neq, abin_lss, abin_leq, abin_gtr, abin_geq, aunary_not, aextract, Option.some.injEq, Prod.mk.injEq, Value.bool.injEq, exists_eq_left', exists_and_left, and_assoc, decide_eq_true_eq, decide_eq_false_iff_not, if_true, if_false, Nat.zero_add, Nat.add_zero, Option.bind_some, true_and, and_true, forall_const, true_implies, Bool.not_eq_true, Bool.false_eq_true, false_implies, ite_self, Nat.mul_one, hw]
    refine m_reg ?_
    rw [reg27_6]
    have hwi : IntKind.i64.wrap ((i : Int) + 1) = ((i + 1 : Nat) : Int) := by rw [wrap_i64 (by omega) (by omega)]; rfl
    simp (decide := true) only [FT.get_set, FT.setL, faS_ptr, nilS_ptr, nilS_func, nilS_yield, pickS_bool, ldS_ptr, list_cells, list_ro, partS_none, lenSl_of, lenStr_of, cvInt_of, aminmax_max, aminmax_min, abin_add, abin_sub, abin_mul, abin_eql, abin_neq, abin_lss, abin_leq, abin_gtr, abin_geq, aunary_not, aextract, Option.some.injEq, Prod.mk.injEq, Value.bool.injEq, exists_eq_left', exists_and_left, and_assoc, decide_eq_true_eq, decide_eq_false_iff_not, if_true, if_false, Nat.zero_add, Nat.add_zero, Option.bind_some, true_and, and_true, forall_const, true_implies, Bool.not_eq_true, Bool.false_eq_true, false_implies, ite_self, Nat.mul_one, t16, hwi]
    exact ⟨m - 1, by omega, i + 1, by omega, rfl, by simp [FT.get_set, FT.setL, faS_ptr, nilS_ptr, nilS_func, nilS_yield, pickS_bool, ldS_ptr, list_cells, list_ro, partS_none, lenSl_of, lenStr_of, cvInt_of, aminmax_max, aminmax_min, abin_add, abin_sub, abin_mul, abin_eql, abin_neq, abin_lss, abin_leq, abin_gtr, abin_geq, aunary_not, aextract], by simp [FT.get_set, FT.setL, faS_ptr, nilS_ptr, nilS_func, nilS_yield, pickS_bool, ldS_ptr, list_cells, list_ro, partS_none, lenSl_of, lenStr_of, cvInt_of, aminmax_max, aminmax_min, abin_add, abin_sub, abin_mul, abin_eql, abin_neq, abin_lss, abin_leq, abin_gtr, abin_geq, aunary_not, aextract, t14], by simp [FT.get_set, FT.setL, faS_ptr, nilS_ptr, nilS_func, nilS_yield, pickS_bool, ldS_ptr, list_cells, list_ro, partS_none, lenSl_of, lenStr_of, cvInt_of, aminmax_max, aminmax_min, abin_add, abin_sub, abin_mul, abin_eql, abin_neq, abin_lss, abin_leq, abin_gtr, abin_geq, aunary_not, aextract, t15], by simp [FT.get_set, FT.setL, faS_ptr, nilS_ptr, nilS_func, nilS_yield, pickS_bool, ldS_ptr, list_cells, list_ro, partS_none, lenSl_of, lenStr_of, cvInt_of, aminmax_max, aminmax_min, abin_add, abin_sub, abin_mul, abin_eql, abin_neq, abin_lss, abin_leq, abin_gtr, abin_geq, aunary_not, aextract]⟩
  · have : i = rs.length := by have := of_decide_eq_false hlt; omega
    subst this
    rw [List.take_length] at t3
    simp only [if_true]
    refine m_seq (m_reg ?_)
    rw [reg27_7]
    refine m_ret ?_
    simp [resM, FT.get_set, FT.setL, faS_ptr, nilS_ptr, nilS_func, nilS_yield, pickS_bool, ldS_ptr, list_cells, list_ro, partS_none, lenSl_of, lenStr_of, cvInt_of, aminmax_max, aminmax_min, abin_add, abin_sub, abin_mul, abin_eql, abin_neq, abin_lss, abin_leq, abin_gtr, abin_geq, aunary_not, aextract, oneOrTuple, t3]
    exact hq
end Go.Proofs.Ytmfmbadfgnhonaa
namespace Go.Proofs.Ytmfmbadfgnhonaa
open Go Go.Ag
set_option linter.unusedVariables false
set_option maxRecDepth 100000

/-- Base: a copy -/
theorem base25 {S : MS} {j d B half end' : Nat} {base tail : List UInt8} {rs : List (List UInt8)} {dead : Bool} (h : IsJ S j d B half end' base rs tail dead) (hl : base.length ≤ 400000) {Q : Value → MS → Prop} (hq : ∀ v S', Old S S' → SlF bF 1 S' S.n v base → Q v S') : CallM Try.prog O 25 [.pointer (some ⟨j, 0, none⟩)] S Q := by
  obtain ⟨bv, rv, tv, rl, hj, hb, hr, hrs, ht, hav⟩ := h.ex
  refine callM_body (fnIs is25 body25 res25) (O_none (by decide)) (by simp) ?_
  refine m_seq (m_reg ?_)
  rw [reg25_0]
  refine m_seq (m_reg ?_)
  rw [reg25_1]
  have g3 : (jouL d half end' bv rv tv dead)[3]? = some bv := rfl
  simp (decide := true) only [FT.get_set, FT.setL, faS_ptr, nilS_ptr, nilS_func, nilS_yield, pickS_bool, ldS_ptr, list_cells, list_ro, partS_none, lenSl_of, lenStr_of, cvInt_of, aminmax_max, aminmax_min, abin_add, abin_sub, abin_mul, abin_eql, abin_neq, abin_lss, abin_leq, abin_gtr, abin_geq, aunary_not, aextract, Option.some.injEq, Prod.mk.injEq, Value.bool.injEq, exists_eq_left', exists_and_left, and_assoc, decide_eq_true_eq, decide_eq_false_iff_not, if_true, if_false, Nat.zero_add, Nat.add_zero, Option.bind_some, true_and, and_true, forall_const, true_implies, Bool.not_eq_true, Bool.false_eq_true, false_implies, ite_self, Nat.mul_one, list_of hj, g3]
  refine clone40 hb hl fun v S' f hv => ?_
  refine m_ret ?_
  simp [resM, FT.get_set, FT.setL, faS_ptr, nilS_ptr, nilS_func, nilS_yield, pickS_bool, ldS_ptr, list_cells, list_ro, partS_none, lenSl_of, lenStr_of, cvInt_of, aminmax_max, aminmax_min, abin_add, abin_sub, abin_mul, abin_eql, abin_neq, abin_lss, abin_leq, abin_gtr, abin_geq, aunary_not, aextract, oneOrTuple]
  exact hq v S' f hv
theorem IsJ.old {S S' : MS} {j d B half end' : Nat} {base tail : List UInt8} {rs : List (List UInt8)} {dead : Bool} (h : IsJ S j d B half end' base rs tail dead) (wf : S.WF) (f : Old S S') : IsJ S' j d B half end' base rs tail dead := by
  obtain ⟨bv, rv, tv, rl, hj, hb, hr, hrs, ht, hav⟩ := h.ex
  exact ⟨bv, rv, tv, rl, by rw [f.2 j (wf _ _ hj)]; exact hj, hb.keep wf f.2, hr.keep fun y k hk => f.2 y (wf y k hk), hrs.keep wf f.2, ht.keep wf f.2, hav⟩
end Go.Proofs.Ytmfmbadfgnhonaa

