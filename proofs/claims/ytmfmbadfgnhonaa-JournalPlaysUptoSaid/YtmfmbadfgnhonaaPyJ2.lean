/-
  The walk through the journal's code: what its functions do to memory, part PyJ2. Nothing is asked.
-/
import Derived.Test.YtmfmbadfgnhonaaPyJ1
set_option linter.all false
namespace Go.Proofs.Ytmfmbadfgnhonaa
open Go Go.Ag
set_option linter.unusedVariables false
set_option maxRecDepth 100000

theorem clone40 {S : MS} {v : Value} {bs : List UInt8} (h : RB S v bs) (hl : bs.length ≤ 400000) {Q : Value → MS → Prop} (hq : ∀ v' S', Old S S' → SlF bF 1 S' S.n v' bs → Q v' S') : CallM Try.prog O 40 [v] S Q := by
  refine callM_wf fun wf => ?_
  refine callM_body (fnIs is40 body40 res40) (O_none (by decide)) (by simp) ?_
  refine m_seq (m_reg ?_)
  rw [reg40_0]
  refine m_seq (m_seq (m_reg ?_))
  rw [reg40_1]
  have hcase : v = .slice none 0 0 ∧ bs = [] ∨ ∃ a n c, v = .slice (some a) n c := by
    rcases h with h | ⟨rfl, rfl⟩ | ⟨b, off, cap, L, rfl, _⟩
    · exact .inl h
    · exact .inr ⟨_, _, _, rfl⟩
    · exact .inr ⟨_, _, _, rfl⟩
  rcases hcase with ⟨rfl, rfl⟩ | ⟨a, n, c, rfl⟩
  · simp (decide := true) only [FT.get_set, FT.setL, faS_ptr, nilS_ptr, nilS_func, nilS_yield, pickS_bool, ldS_ptr, list_cells, list_ro, partS_none, lenSl_of, lenStr_of, cvInt_of, aminmax_max, aminmax_min, abin_add, abin_sub, abin_mul, abin_eql, abin_neq, abin_lss, abin_leq, abin_gtr, abin_geq, aunary_not, aextract, Option.some.injEq, Prod.mk.injEq, Value.bool.injEq, exists_eq_left', exists_and_left, and_assoc, decide_eq_true_eq, decide_eq_false_iff_not, if_true, if_false, Nat.zero_add, Nat.add_zero, Option.bind_some, true_and, and_true, forall_const, true_implies, Bool.not_eq_true, Bool.false_eq_true, false_implies, ite_self, Nat.mul_one, eql32_nil]
    refine m_cond (t := true) (by simp [evalT, FT.get_set, FT.setL, faS_ptr, nilS_ptr, nilS_func, nilS_yield, pickS_bool, ldS_ptr, list_cells, list_ro, partS_none, lenSl_of, lenStr_of, cvInt_of, aminmax_max, aminmax_min, abin_add, abin_sub, abin_mul, abin_eql, abin_neq, abin_lss, abin_leq, abin_gtr, abin_geq, aunary_not, aextract]) (fun _ => ?_) (fun h => by cases h)
    refine m_seq (m_reg ?_)
    rw [reg40_2]
    refine m_ret ?_
    simp [resM, FT.get_set, FT.setL, faS_ptr, nilS_ptr, nilS_func, nilS_yield, pickS_bool, ldS_ptr, list_cells, list_ro, partS_none, lenSl_of, lenStr_of, cvInt_of, aminmax_max, aminmax_min, abin_add, abin_sub, abin_mul, abin_eql, abin_neq, abin_lss, abin_leq, abin_gtr, abin_geq, aunary_not, aextract, oneOrTuple]
    exact hq _ _ (Old.refl S) .non
  · simp (decide := true) only [FT.get_set, FT.setL, faS_ptr, nilS_ptr, nilS_func, nilS_yield, pickS_bool, ldS_ptr, list_cells, list_ro, partS_none, lenSl_of, lenStr_of, cvInt_of, aminmax_max, aminmax_min, abin_add, abin_sub, abin_mul, abin_eql, abin_neq, abin_lss, abin_leq, abin_gtr, abin_geq, aunary_not, aextract, Option.some.injEq, Prod.mk.injEq, Value.bool.injEq, exists_eq_left', exists_and_left, and_assoc, decide_eq_true_eq, decide_eq_false_iff_not, if_true, if_false, Nat.zero_add, Nat.add_zero, Option.bind_some, true_and, and_true, forall_const, true_implies, Bool.not_eq_true, Bool.false_eq_true, false_implies, ite_self, Nat.mul_one, eql32_own]
    refine m_cond (t := false) (by simp [evalT, FT.get_set, FT.setL, faS_ptr, nilS_ptr, nilS_func, nilS_yield, pickS_bool, ldS_ptr, list_cells, list_ro, partS_none, lenSl_of, lenStr_of, cvInt_of, aminmax_max, aminmax_min, abin_add, abin_sub, abin_mul, abin_eql, abin_neq, abin_lss, abin_leq, abin_gtr, abin_geq, aunary_not, aextract]) (fun h => by cases h) (fun _ => m_skip ?_)
    simp only
    refine m_seq (m_reg ?_)
    rw [reg40_3]
    have e0 : bsS S 0 1 [] [] = some (.slice (some ⟨S.n, 0, none⟩) 0 0, S.fresh [] 1) := rfl
    have wf1 := wf_fresh' wf [] 1
    have hnil : SlF bF 1 (S.fresh [] 1) S.n (.slice (some ⟨S.n, 0, none⟩) 0 0) [] := .own (l := []) (junk := []) (fresh_at S [] 1) (Nat.le_refl _) (.inr ⟨by decide, rfl⟩) (by simp)
    have h1 := h.keep wf (old_fresh S [] 1).2
    obtain ⟨v', S1, a1, a2, a3, a4, a5⟩ := hnil.app2 (bytes := 1) (z := [.int .u8 0]) bF_len bF_one (by decide) (x := .slice (some a) n c) (new := bs) wf1 (by simp only [fresh_n]; omega) h1.lenA h1.flat (by simp; omega) (by simp; omega)
    rw [List.nil_append] at a2
    simp (decide := true) only [FT.get_set, FT.setL, faS_ptr, nilS_ptr, nilS_func, nilS_yield, pickS_bool, ldS_ptr, list_cells, list_ro, partS_none, lenSl_of, lenStr_of, cvInt_of, aminmax_max, aminmax_min, abin_add, abin_sub, abin_mul, abin_eql, abin_neq, abin_lss, abin_leq, abin_gtr, abin_geq, aunary_not, aextract, Option.some.injEq, Prod.mk.injEq, Value.bool.injEq, exists_eq_left', exists_and_left, and_assoc, decide_eq_true_eq, decide_eq_false_iff_not, if_true, if_false, Nat.zero_add, Nat.add_zero, Option.bind_some, true_and, and_true, forall_const, true_implies, Bool.not_eq_true, Bool.false_eq_true, false_implies, ite_self, Nat.mul_one, e0, a1]
    refine m_ret ?_
    simp [resM, FT.get_set, FT.setL, faS_ptr, nilS_ptr, nilS_func, nilS_yield, pickS_bool, ldS_ptr, list_cells, list_ro, partS_none, lenSl_of, lenStr_of, cvInt_of, aminmax_max, aminmax_min, abin_add, abin_sub, abin_mul, abin_eql, abin_neq, abin_lss, abin_leq, abin_gtr, abin_geq, aunary_not, aextract, oneOrTuple]
    refine hq _ _ ⟨by simp only [fresh_n] at a3; omega, fun y hy => ?_⟩ a2
    rw [a4 y (by simp only [fresh_n]; omega) (fun l c e => by cases e; omega), fresh_old _ _ _ (by omega)]

/-- a record, as it is laid down -/
def laid (bs : List UInt8) : List UInt8 := num8 bs.length ++ bs
theorem laid_len (bs : List UInt8) : (laid bs).length = bs.length + 8 := by simp [laid, num8_len]; omega

theorem SlF.num {S S' : MS} {n : Nat} (h : S'.m S.n = some (.cells (bL (num8 n)) 1)) : SlF bF 1 S' S.n (.slice (some ⟨S.n, 0, none⟩) 8 8) (num8 n) := by
  have := SlF.own (f := bF) (sz := 1) (S := S') (B := S.n) (b := S.n) (cap := 8) (l := num8 n) (junk := []) (by rw [List.append_nil, bF_flat]; exact h) (Nat.le_refl _) (.inr ⟨by decide, by rw [List.append_nil, num8_len]⟩) (by rw [List.append_nil, num8_len]; omega)
  rwa [num8_len] at this

theorem laid31 {S : MS} {v : Value} {bs : List UInt8} (h : RB S v bs) (hl : bs.length ≤ 400000) {Q : Value → MS → Prop} (hq : ∀ v' S', Old S S' → SlF bF 1 S' S.n v' (laid bs) → Q v' S') : CallM Try.prog O 31 [v] S Q := by
  refine callM_wf fun wf => ?_
  refine callM_body (fnIs is31 body31 res31) (O_none (by decide)) (by simp) ?_
  refine m_seq (m_reg ?_)
  rw [reg31_0]
  refine m_seq (m_reg ?_)
  rw [reg31_1]
  simp (decide := true) only [FT.get_set, FT.setL, faS_ptr, nilS_ptr, nilS_func, nilS_yield, pickS_bool, ldS_ptr, list_cells, list_ro, partS_none, lenSl_of, lenStr_of, cvInt_of, aminmax_max, aminmax_min, abin_add, abin_sub, abin_mul, abin_eql, abin_neq, abin_lss, abin_leq, abin_gtr, abin_geq, aunary_not, aextract, Option.some.injEq, Prod.mk.injEq, Value.bool.injEq, exists_eq_left', exists_and_left, and_assoc, decide_eq_true_eq, decide_eq_false_iff_not, if_true, if_false, Nat.zero_add, Nat.add_zero, Option.bind_some, true_and, and_true, forall_const, true_implies, Bool.not_eq_true, Bool.false_eq_true, false_implies, ite_self, Nat.mul_one, h.len]
  refine callM_wf_post (number43 bs.length (by omega) fun S1 n1 f1 c1 wf1 => ?_)
  have h1 := h.keep wf f1
  obtain ⟨v', S2, a1, a2, a3, a4, a5⟩ := (SlF.num c1).app2 (bytes := 1) (z := [.int .u8 0]) bF_len bF_one (by decide) (x := v) (new := bs) wf1 (by omega) h1.lenA h1.flat (by rw [num8_len]; omega) (by rw [num8_len]; omega)
  simp (decide := true) only [FT.get_set, FT.setL, faS_ptr, nilS_ptr, nilS_func, nilS_yield, pickS_bool, ldS_ptr, list_cells, list_ro, partS_none, lenSl_of, lenStr_of, cvInt_of, aminmax_max, aminmax_min, abin_add, abin_sub, abin_mul, abin_eql, abin_neq, abin_lss, abin_leq, abin_gtr, abin_geq, aunary_not, aextract, Option.some.injEq, Prod.mk.injEq, Value.bool.injEq, exists_eq_left', exists_and_left, and_assoc, decide_eq_true_eq, decide_eq_false_iff_not, if_true, if_false, Nat.zero_add, Nat.add_zero, Option.bind_some, true_and, and_true, forall_const, true_implies, Bool.not_eq_true, Bool.false_eq_true, false_implies, ite_self, Nat.mul_one, a1]
  refine m_ret ?_
  simp [resM, FT.get_set, FT.setL, faS_ptr, nilS_ptr, nilS_func, nilS_yield, pickS_bool, ldS_ptr, list_cells, list_ro, partS_none, lenSl_of, lenStr_of, cvInt_of, aminmax_max, aminmax_min, abin_add, abin_sub, abin_mul, abin_eql, abin_neq, abin_lss, abin_leq, abin_gtr, abin_geq, aunary_not, aextract, oneOrTuple]
  refine hq _ _ ⟨by omega, fun y hy => ?_⟩ a2
  rw [a4 y (by omega) (fun l c e => by cases e; omega), f1 y hy]

/-- two slices of the same bytes -/
theorem equal37 {S : MS} {v v' : Value} {bs : List UInt8} (h : RB S v bs) (h' : RB S v' bs) {Q : Value → MS → Prop} (hq : Q (.bool true) S) : CallM Try.prog O 37 [v, v'] S Q := by
  refine callM_body (fnIs is37 body37 res37) (O_none (by decide)) (by simp) ?_
  refine m_seq (m_reg ?_)
  rw [reg37_0]
  refine m_seq (m_reg ?_)
  rw [reg37_1]
  simp (decide := true) only [FT.get_set, FT.setL, faS_ptr, nilS_ptr, nilS_func, nilS_yield, pickS_bool, ldS_ptr, list_cells, list_ro, partS_none, lenSl_of, lenStr_of, cvInt_of, aminmax_max, aminmax_min, abin_add, abin_sub, abin_mul, abin_eql, abin_neq, abin_lss, abin_leq, abin_gtr, abin_geq, aunary_not, aextract, Option.some.injEq, Prod.mk.injEq, Value.bool.injEq, exists_eq_left', exists_and_left, and_assoc, decide_eq_true_eq, decide_eq_false_iff_not, if_true, if_false, Nat.zero_add, Nat.add_zero, Option.bind_some, true_and, and_true, forall_const, true_implies, Bool.not_eq_true, Bool.false_eq_true, false_implies, ite_self, Nat.mul_one, h.str, h'.str, abin_str_eql, beq_self_eq_true]
  refine m_ret ?_
  simp [resM, FT.get_set, FT.setL, faS_ptr, nilS_ptr, nilS_func, nilS_yield, pickS_bool, ldS_ptr, list_cells, list_ro, partS_none, lenSl_of, lenStr_of, cvInt_of, aminmax_max, aminmax_min, abin_add, abin_sub, abin_mul, abin_eql, abin_neq, abin_lss, abin_leq, abin_gtr, abin_geq, aunary_not, aextract, oneOrTuple]
  exact hq

/-! ### places -/
theorem capacity29 {S : MS} {d : Nat} {D : DK} (h : IsD S d D) (hn : D.made.length ≤ 16384) {Q : Value → MS → Prop} (hq : Q (.int .i64 ((32 * D.made.length : Nat) : Int)) S) : CallM Try.prog O 29 [.pointer (some ⟨d, 0, none⟩)] S Q := by
  refine callM_body (fnIs is29 body29 res29) (O_none (by decide)) (by simp) ?_
  refine m_seq (m_reg ?_)
  rw [reg29_0]
  refine m_seq (m_reg ?_)
  rw [reg29_1]
  simp (decide := true) only [FT.get_set, FT.setL, faS_ptr, nilS_ptr, nilS_func, nilS_yield, pickS_bool, ldS_ptr, list_cells, list_ro, partS_none, lenSl_of, lenStr_of, cvInt_of, aminmax_max, aminmax_min, abin_add, abin_sub, abin_mul, abin_eql, abin_neq, abin_lss, abin_leq, abin_gtr, abin_geq, aunary_not, aextract, Option.some.injEq, Prod.mk.injEq, Value.bool.injEq, exists_eq_left', exists_and_left, and_assoc, decide_eq_true_eq, decide_eq_false_iff_not, if_true, if_false, Nat.zero_add, Nat.add_zero, Option.bind_some, true_and, and_true, forall_const, true_implies, Bool.not_eq_true, Bool.false_eq_true, false_implies, ite_self, Nat.mul_one, ]
  refine blocksD h ?_
  have hw : IntKind.i64.wrap (32 * (D.made.length : Int)) = ((32 * D.made.length : Nat) : Int) := by rw [wrap_i64 (by omega) (by omega)]; omega
  simp (decide := true) only [FT.get_set, FT.setL, faS_ptr, nilS_ptr, nilS_func, nilS_yield, pickS_bool, ldS_ptr, list_cells, list_ro, partS_none, lenSl_of, lenStr_of, cvInt_of, aminmax_max, aminmax_min, abin_add, abin_sub, abin_mul, abin_eql, abin_neq, abin_lss, abin_leq, abin_gtr, abin_geq, aunary_not, aextract, Option.some.injEq, Prod.mk.injEq, Value.bool.injEq, exists_eq_left', exists_and_left, and_assoc, decide_eq_true_eq, decide_eq_false_iff_not, if_true, if_false, Nat.zero_add, Nat.add_zero, Option.bind_some, true_and, and_true, forall_const, true_implies, Bool.not_eq_true, Bool.false_eq_true, false_implies, ite_self, Nat.mul_one, hw]
  refine m_ret ?_
  simp [resM, FT.get_set, FT.setL, faS_ptr, nilS_ptr, nilS_func, nilS_yield, pickS_bool, ldS_ptr, list_cells, list_ro, partS_none, lenSl_of, lenStr_of, cvInt_of, aminmax_max, aminmax_min, abin_add, abin_sub, abin_mul, abin_eql, abin_neq, abin_lss, abin_leq, abin_gtr, abin_geq, aunary_not, aextract, oneOrTuple]
  exact hq
def placeN (n half : Nat) : Nat := 1 + half * ((n - 1) / 2)
theorem place33 {S : MS} {d : Nat} {D : DK} (h : IsD S d D) {half : Nat} (hh : half ≤ 1) (hn : 1 ≤ D.made.length ∧ D.made.length ≤ 16384) {Q : Value → MS → Prop} (hq : Q (.int .i64 (placeN D.made.length half : Nat)) S) : CallM Try.prog O 33 [.pointer (some ⟨d, 0, none⟩), .int .i64 half] S Q := by
  refine callM_body (fnIs is33 body33 res33) (O_none (by decide)) (by simp) ?_
  refine m_seq (m_reg ?_)
  rw [reg33_0]
  refine m_seq (m_reg ?_)
  rw [reg33_1]
  simp (decide := true) only [FT.get_set, FT.setL, faS_ptr, nilS_ptr, nilS_func, nilS_yield, pickS_bool, ldS_ptr, list_cells, list_ro, partS_none, lenSl_of, lenStr_of, cvInt_of, aminmax_max, aminmax_min, abin_add, abin_sub, abin_mul, abin_eql, abin_neq, abin_lss, abin_leq, abin_gtr, abin_geq, aunary_not, aextract, Option.some.injEq, Prod.mk.injEq, Value.bool.injEq, exists_eq_left', exists_and_left, and_assoc, decide_eq_true_eq, decide_eq_false_iff_not, if_true, if_false, Nat.zero_add, Nat.add_zero, Option.bind_some, true_and, and_true, forall_const, true_implies, Bool.not_eq_true, Bool.false_eq_true, false_implies, ite_self, Nat.mul_one, ]
  refine blocksD h ?_
  have w1 : IntKind.i64.wrap ((D.made.length : Int) - 1) = ((D.made.length - 1 : Nat) : Int) := by rw [wrap_i64 (by omega) (by omega)]; omega
  have w2 : ((D.made.length - 1 : Nat) : Int).tdiv 2 = (((D.made.length - 1) / 2 : Nat) : Int) := by rw [Int.tdiv_eq_ediv_of_nonneg (by omega)]; rfl
  have w3 : IntKind.i64.wrap (((D.made.length - 1) / 2 : Nat) : Int) = (((D.made.length - 1) / 2 : Nat) : Int) := wrap_i64 (by omega) (by omega)
  have hle : half * ((D.made.length - 1) / 2) ≤ 1 * ((D.made.length - 1) / 2) := Nat.mul_le_mul_right _ hh
  have w4 : IntKind.i64.wrap ((half : Int) * (((D.made.length - 1) / 2 : Nat) : Int)) = ((half * ((D.made.length - 1) / 2) : Nat) : Int) := by rw [← Int.natCast_mul, wrap_i64 (by omega) (by omega)]
  have w5 : IntKind.i64.wrap (1 + ((half * ((D.made.length - 1) / 2) : Nat) : Int)) = ((placeN D.made.length half : Nat) : Int) := by rw [wrap_i64 (by omega) (by omega)]; rfl
  have q2 : abin Try.prog .quo 3 (.tmp 8) (.const (.int .i64 2)) (.int .i64 ((D.made.length - 1 : Nat) : Int)) (.int .i64 2) = some (.int .i64 (((D.made.length - 1) / 2 : Nat) : Int)) := by rw [abin_quo _ _ _ _ _ _ _ (by decide), w2, w3]
  simp (decide := true) only [FT.get_set, FT.setL, faS_ptr, nilS_ptr, nilS_func, nilS_yield, pickS_bool, ldS_ptr, list_cells, list_ro, partS_none, lenSl_of, lenStr_of, cvInt_of, aminmax_max, aminmax_min, abin_add, abin_sub, abin_mul, abin_eql, abin_neq, abin_lss, abin_leq, abin_gtr, abin_geq, aunary_not, aextract, Option.some.injEq, Prod.mk.injEq, Value.bool.injEq, exists_eq_left', exists_and_left, and_assoc, decide_eq_true_eq, decide_eq_false_iff_not, if_true, if_false, Nat.zero_add, Nat.add_zero, Option.bind_some, true_and, and_true, forall_const, true_implies, Bool.not_eq_true, Bool.false_eq_true, false_implies, ite_self, Nat.mul_one, w1, q2, w4, w5]
  refine m_ret ?_
  simp [resM, FT.get_set, FT.setL, faS_ptr, nilS_ptr, nilS_func, nilS_yield, pickS_bool, ldS_ptr, list_cells, list_ro, partS_none, lenSl_of, lenStr_of, cvInt_of, aminmax_max, aminmax_min, abin_add, abin_sub, abin_mul, abin_eql, abin_neq, abin_lss, abin_leq, abin_gtr, abin_geq, aunary_not, aextract, oneOrTuple]
  exact hq
end Go.Proofs.Ytmfmbadfgnhonaa
namespace Go.Proofs.Ytmfmbadfgnhonaa
open Go Go.Ag
set_option linter.unusedVariables false
set_option maxRecDepth 100000

theorem apS_zeros (S : MS) (s : Value) (n : Nat) (hn : n ≤ 100000) : apS true 1 1 [.int .u8 0] S [s, .int .i64 (n : Int)] = apS false 1 1 [.int .u8 0] S [s, .string ⟨(List.replicate n 0).toArray⟩] := by
  have hw : IntKind.i64.wrap (n : Int) = n := wrap_i64 (by omega) (by omega)
  have e1 : appendedM S true 1 1 [.int .u8 0] (.int .i64 (n : Int)) = some (n, bL (List.replicate n 0)) := by
    unfold appendedM
    simp only [if_true, hw]
    rw [if_pos ⟨by omega, by omega, rfl⟩, Int.toNat_natCast, zeros_one]
    simp [bL]
  have e2 : appendedM S false 1 1 [.int .u8 0] (.string ⟨(List.replicate n 0).toArray⟩) = some (n, bL (List.replicate n 0)) := by
    unfold appendedM
    have h1 : lenOfA (.string ⟨(List.replicate n (0 : UInt8)).toArray⟩) = some n := by
      show some (ByteArray.size ⟨(List.replicate n (0 : UInt8)).toArray⟩) = some n
      simp [ByteArray.size]
    simp only [Bool.false_eq_true, if_false, h1, Option.bind_some, first_str]
    simp [bL]
  unfold apS
  simp only [e1, e2]

def headB (half end' : Nat) : List UInt8 := ((num8 2003398244 ++ num8 half) ++ num8 end') ++ List.replicate 232 0
theorem headB_len (h e : Nat) : (headB h e).length = 256 := by simp [headB, num8_len]

theorem first_strB (S : MS) (n : Nat) : lenOfA (.string ⟨(List.replicate n (0 : UInt8)).toArray⟩) = some (List.replicate n (0 : UInt8)).length ∧ firstCellsM S 1 (List.replicate n (0 : UInt8)).length (.string ⟨(List.replicate n (0 : UInt8)).toArray⟩) = some ((List.replicate n (0 : UInt8)).flatMap bF) := by
  refine ⟨?_, ?_⟩
  · show some (ByteArray.size ⟨(List.replicate n (0 : UInt8)).toArray⟩) = _
    simp [ByteArray.size]
  · rw [first_str, bF_flat]
    simp [bL]

theorem head34 {S : MS} (half end' : Nat) (hh : half < 4611686018427387904) (he : end' < 4611686018427387904) {Q : Value → MS → Prop} (hq : ∀ v' S', Old S S' → SlF bF 1 S' S.n v' (headB half end') → Q v' S') : CallM Try.prog O 34 [.int .i64 half, .int .i64 end'] S Q := by
  refine callM_wf fun wf => ?_
  refine callM_body (fnIs is34 body34 res34) (O_none (by decide)) (by simp) ?_
  refine m_seq (m_reg ?_)
  rw [reg34_0]
  refine m_seq (m_reg ?_)
  rw [reg34_1]
  simp (decide := true) only [FT.get_set, FT.setL, faS_ptr, nilS_ptr, nilS_func, nilS_yield, pickS_bool, ldS_ptr, list_cells, list_ro, partS_none, lenSl_of, lenStr_of, cvInt_of, aminmax_max, aminmax_min, abin_add, abin_sub, abin_mul, abin_eql, abin_neq, abin_lss, abin_leq, abin_gtr, abin_geq, aunary_not, aextract, Option.some.injEq, Prod.mk.injEq, Value.bool.injEq, exists_eq_left', exists_and_left, and_assoc, decide_eq_true_eq, decide_eq_false_iff_not, if_true, if_false, Nat.zero_add, Nat.add_zero, Option.bind_some, true_and, and_true, forall_const, true_implies, Bool.not_eq_true, Bool.false_eq_true, false_implies, ite_self, Nat.mul_one, ]
  refine callM_wf_post (number43 2003398244 (by omega) fun S1 n1 f1 c1 wf1 => ?_)
  refine callM_wf_post (number43 half hh fun S2 n2 f2 c2 wf2 => ?_)
  have s1 : SlF bF 1 S2 S.n (.slice (some ⟨S.n, 0, none⟩) 8 8) (num8 2003398244) := (SlF.num c1).keep fun y k hk => f2 y (wf1 y k hk)
  have r2 : RB S2 (.slice (some ⟨S1.n, 0, none⟩) 8 8) (num8 half) := RB.own (SlF.num c2)
  obtain ⟨v3, S3, a1, a2, a3, a4, a5⟩ := s1.app2 (bytes := 1) (z := [.int .u8 0]) bF_len bF_one (by decide) (x := .slice (some ⟨S1.n, 0, none⟩) 8 8) (new := num8 half) wf2 (by omega) r2.lenA r2.flat (by rw [num8_len, num8_len]; omega) (by rw [num8_len, num8_len]; omega)
  simp (decide := true) only [FT.get_set, FT.setL, faS_ptr, nilS_ptr, nilS_func, nilS_yield, pickS_bool, ldS_ptr, list_cells, list_ro, partS_none, lenSl_of, lenStr_of, cvInt_of, aminmax_max, aminmax_min, abin_add, abin_sub, abin_mul, abin_eql, abin_neq, abin_lss, abin_leq, abin_gtr, abin_geq, aunary_not, aextract, Option.some.injEq, Prod.mk.injEq, Value.bool.injEq, exists_eq_left', exists_and_left, and_assoc, decide_eq_true_eq, decide_eq_false_iff_not, if_true, if_false, Nat.zero_add, Nat.add_zero, Option.bind_some, true_and, and_true, forall_const, true_implies, Bool.not_eq_true, Bool.false_eq_true, false_implies, ite_self, Nat.mul_one, a1]
  refine callM_wf fun wf3 => callM_wf_post (number43 end' he fun S4 n4 f4 c4 wf4 => ?_)
  have s3 : SlF bF 1 S4 S.n v3 (num8 2003398244 ++ num8 half) := a2.keep1 fun y k hy hk => f4 y (wf3 y k hk)
  have r4 : RB S4 (.slice (some ⟨S3.n, 0, none⟩) 8 8) (num8 end') := RB.own (SlF.num c4)
  obtain ⟨v5, S5, b1, b2, b3, b4, b5⟩ := s3.app2 (bytes := 1) (z := [.int .u8 0]) bF_len bF_one (by decide) (x := .slice (some ⟨S3.n, 0, none⟩) 8 8) (new := num8 end') wf4 (by omega) r4.lenA r4.flat (by rw [List.length_append, num8_len, num8_len, num8_len]; omega) (by rw [List.length_append, num8_len, num8_len, num8_len]; omega)
  simp (decide := true) only [FT.get_set, FT.setL, faS_ptr, nilS_ptr, nilS_func, nilS_yield, pickS_bool, ldS_ptr, list_cells, list_ro, partS_none, lenSl_of, lenStr_of, cvInt_of, aminmax_max, aminmax_min, abin_add, abin_sub, abin_mul, abin_eql, abin_neq, abin_lss, abin_leq, abin_gtr, abin_geq, aunary_not, aextract, Option.some.injEq, Prod.mk.injEq, Value.bool.injEq, exists_eq_left', exists_and_left, and_assoc, decide_eq_true_eq, decide_eq_false_iff_not, if_true, if_false, Nat.zero_add, Nat.add_zero, Option.bind_some, true_and, and_true, forall_const, true_implies, Bool.not_eq_true, Bool.false_eq_true, false_implies, ite_self, Nat.mul_one, b1]
  refine m_wf fun wf5 => m_seq (m_reg ?_)
  rw [reg34_2]
  have hl5 : ((num8 2003398244 ++ num8 half) ++ num8 end').length = 24 := by simp [num8_len]
  have hlen := b2.lenSl
  rw [hl5] at hlen
  obtain ⟨g1, g2⟩ := first_strB S5 232
  obtain ⟨v6, S6, d1, d2, d3, d4, d5⟩ := b2.app2 (bytes := 1) (z := [.int .u8 0]) bF_len bF_one (by decide) (x := .string ⟨(List.replicate 232 (0 : UInt8)).toArray⟩) (new := List.replicate 232 0) wf5 (by omega) g1 g2 (by rw [hl5, List.length_replicate]; omega) (by rw [hl5, List.length_replicate]; omega)
  have hz := apS_zeros S5 v5 232 (by omega)
  rw [d1] at hz
  have hw : IntKind.i64.wrap ((256 : Int) - ((24 : Nat) : Int)) = ((232 : Nat) : Int) := by rw [wrap_i64 (by omega) (by omega)]; rfl
  simp (decide := true) only [FT.get_set, FT.setL, faS_ptr, nilS_ptr, nilS_func, nilS_yield, pickS_bool, ldS_ptr, list_cells, list_ro, partS_none, lenSl_of, lenStr_of, cvInt_of, aminmax_max, aminmax_min, abin_add, abin_sub, abin_mul, abin_eql, abin_neq, abin_lss, abin_leq, abin_gtr, abin_geq, aunary_not, aextract, Option.some.injEq, Prod.mk.injEq, Value.bool.injEq, exists_eq_left', exists_and_left, and_assoc, decide_eq_true_eq, decide_eq_false_iff_not, if_true, if_false, Nat.zero_add, Nat.add_zero, Option.bind_some, true_and, and_true, forall_const, true_implies, Bool.not_eq_true, Bool.false_eq_true, false_implies, ite_self, Nat.mul_one, hlen, hw, hz]
  refine m_ret ?_
  simp [resM, FT.get_set, FT.setL, faS_ptr, nilS_ptr, nilS_func, nilS_yield, pickS_bool, ldS_ptr, list_cells, list_ro, partS_none, lenSl_of, lenStr_of, cvInt_of, aminmax_max, aminmax_min, abin_add, abin_sub, abin_mul, abin_eql, abin_neq, abin_lss, abin_leq, abin_gtr, abin_geq, aunary_not, aextract, oneOrTuple]
  refine hq _ _ ⟨by omega, fun y hy => ?_⟩ d2
  rw [d4 y (by omega) (b2.av hy), b4 y (by omega) (s3.av hy), f4 y (by omega), a4 y (by omega) (s1.av hy), f2 y (by omega), f1 y hy]
end Go.Proofs.Ytmfmbadfgnhonaa
namespace Go.Proofs.Ytmfmbadfgnhonaa
open Go Go.Ag
set_option linter.unusedVariables false
set_option maxRecDepth 100000

/-- what a disk's blocks have in them -/
def Holds (S : MS) (D : DK) (c : Nat → List UInt8) : Prop := ∀ i, i < D.made.length → (c i).length = 256 ∧ ∃ o, D.now[i]? = some o ∧ Cont S o (bL (c i))
theorem Holds.old {S S' : MS} {D : DK} {c : Nat → List UInt8} (h : Holds S D c) (wf : S.WF) (f : Old S S') : Holds S' D c := fun i hi => by
  obtain ⟨h1, o, h2, h3⟩ := h i hi
  refine ⟨h1, o, h2, h3.keep fun a ha => ?_⟩
  subst ha
  exact f.2 a (wf _ _ h3.2.2)

theorem readP {S : MS} {d : Nat} {D : DK} {c : Nat → List UInt8} (h : IsD S d D) (hc : Holds S D c) {i : Nat} (hi : i < D.made.length) {Q : Value → MS → Prop}
    (q1 : D.cut = true → Q (.tuple #[.slice none 0 0, .int .i64 12]) S)
    (q2 : D.cut = false → Q (.tuple #[.slice (some ⟨S.n, 0, none⟩) 256 256, .int .i64 0]) (S.fresh (bL (c i)) 1)) :
    CallM Try.prog O 35 [.pointer (some ⟨d, 0, none⟩), .int .i64 i] S Q := by
  obtain ⟨h1, o, h2, h3⟩ := hc i hi
  refine readD h (i : Int) (c := bL (c i)) (fun o' _ ho' => ?_) q1 (fun _ hno => absurd ⟨by omega, by omega⟩ hno) (fun hcut _ _ => q2 hcut)
  rw [Int.toNat_natCast, h2] at ho'
  cases ho'; exact h3

end Go.Proofs.Ytmfmbadfgnhonaa

