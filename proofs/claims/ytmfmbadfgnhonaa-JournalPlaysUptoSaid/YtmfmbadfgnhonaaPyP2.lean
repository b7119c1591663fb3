/-
  The walk through the journal's code: what its functions do to memory, part PyP2. Nothing is asked.
-/
import Derived.Test.YtmfmbadfgnhonaaPyP1
set_option linter.all false
namespace Go.Proofs.Ytmfmbadfgnhonaa
open Go Go.Ag
set_option linter.unusedVariables false
set_option maxRecDepth 100000

/-- a step, as an argument -/
structure Stp where
  what : Int
  cut : Int
  bytes : List UInt8
def stpL (s : Stp) (x : Value) : List Value := [.int .i64 s.what, .int .i64 s.cut, x]
structure ArgS (S : MS) (v : Value) (l : List Stp) : Prop where
  len : lenSl v = some (.int .i64 l.length)
  small : l.length ≤ 1048576
  get : ∀ (k : Nat) s, l[k]? = some s → ∃ x a o L, iaSS 3 v (.int .i64 (k : Int)) = some (.pointer (some ⟨a, o, none⟩)) ∧ S.list a = some L ∧ o + 3 ≤ L.length ∧ (L.drop o).take 3 = stpL s x ∧ a < S.n ∧ RB S x s.bytes
  ok : ∀ s ∈ l, s.cut ≤ 9223372036854775807 ∧ s.bytes.length ≤ 1048576
theorem ArgS.at {S S' : MS} {v : Value} {l : List Stp} (h : ArgS S v l) (wf : S.WF) (hk : ∀ y, y < S.n → S'.m y = S.m y) {k : Nat} {s : Stp} (hs : l[k]? = some s) : ∃ x a o L, iaSS 3 v (.int .i64 (k : Int)) = some (.pointer (some ⟨a, o, none⟩)) ∧ S'.list a = some L ∧ o + 3 ≤ L.length ∧ (L.drop o).take 3 = stpL s x ∧ RB S' x s.bytes ∧ ∀ y, On x y → y < S.n := by
  obtain ⟨x, a, o, L, h1, h2, h3, h4, h5, h6⟩ := h.get k s hs
  refine ⟨x, a, o, L, h1, ?_, h3, h4, h6.keep wf hk, fun y hy => h6.on_lt wf hy⟩
  unfold MS.list at h2 ⊢
  rw [hk a h5]; exact h2
theorem at2 {L : List Value} {o : Nat} {s : Stp} {x : Value} (h3 : o + 3 ≤ L.length) (h : (L.drop o).take 3 = stpL s x) : L[o + 2]? = some x := by
  have : ((L.drop o).take 3)[2]? = some x := by rw [h]; rfl
  rwa [List.getElem?_take, if_pos (by omega), List.getElem?_drop] at this

/-- few: it tells true or false; true only of few -/
theorem few15 {S : MS} {v : Value} {l : List Stp} (ha : ArgS S v l) {Q : Value → MS → Prop} (hq : ∀ t : Bool, (t = true → l.length ≤ 50) → Q (.bool t) S) : CallM Try.prog O 15 [v] S Q := by
  refine callM_wf fun wf => ?_
  have hsm := ha.small
  refine callM_body (fnIs is15 body15 res15) (O_none (by decide)) (by simp) ?_
  refine m_seq (m_reg ?_)
  rw [reg15_0]
  refine m_seq (m_reg ?_)
  rw [reg15_1]
  refine m_seq (m_seq (m_reg ?_))
  rw [reg15_2]
  unfold blk15_0
  refine m_block (m_loop (fun m T S' => ∃ (i : Nat) (n : Nat), i + m = l.length ∧ n ≤ 5000 * i ∧ S' = S ∧ T.get 0 = v ∧ T.get 3 = .int .i64 n ∧ T.get 4 = .int .i64 i) l.length ⟨0, 0, by omega, by omega, rfl, by simp [FT.get_set, FT.setL, faS_ptr, nilS_ptr, nilS_func, nilS_yield, pickS_bool, ldS_ptr, list_cells, list_ro, partS_none, lenSl_of, lenStr_of, cvInt_of, aminmax_max, aminmax_min, abin_add, abin_sub, abin_mul, abin_eql, abin_neq, abin_lss, abin_leq, abin_gtr, abin_geq, aunary_not, aextract], by simp [FT.get_set, FT.setL, faS_ptr, nilS_ptr, nilS_func, nilS_yield, pickS_bool, ldS_ptr, list_cells, list_ro, partS_none, lenSl_of, lenStr_of, cvInt_of, aminmax_max, aminmax_min, abin_add, abin_sub, abin_mul, abin_eql, abin_neq, abin_lss, abin_leq, abin_gtr, abin_geq, aunary_not, aextract], by simp [FT.get_set, FT.setL, faS_ptr, nilS_ptr, nilS_func, nilS_yield, pickS_bool, ldS_ptr, list_cells, list_ro, partS_none, lenSl_of, lenStr_of, cvInt_of, aminmax_max, aminmax_min, abin_add, abin_sub, abin_mul, abin_eql, abin_neq, abin_lss, abin_leq, abin_gtr, abin_geq, aunary_not, aextract]⟩ ?_)
  rintro m T S1 ⟨i, n, hi, hn, rfl, t0, t3, t4⟩
  refine m_seq (m_seq (m_reg ?_))
  rw [reg15_3]
  simp (decide := true) only [FT.get_set, FT.setL, faS_ptr, nilS_ptr, nilS_func, nilS_yield, pickS_bool, ldS_ptr, list_cells, list_ro, partS_none, lenSl_of, lenStr_of, cvInt_of, aminmax_max, aminmax_min, abin_add, abin_sub, abin_mul, abin_eql, abin_neq, abin_lss, abin_leq, abin_gtr, abin_geq, aunary_not, aextract, Option.some.injEq, Prod.mk.injEq, Value.bool.injEq, exists_eq_left', exists_and_left, and_assoc, decide_eq_true_eq, decide_eq_false_iff_not, if_true, if_false, Nat.zero_add, Nat.add_zero, Option.bind_some, true_and, and_true, forall_const, true_implies, Bool.not_eq_true, Bool.false_eq_true, false_implies, ite_self, Nat.mul_one, t0, t4, ha.len]
  refine m_cond (t := decide ((i : Int) < l.length)) (by simp [evalT, FT.get_set, FT.setL, faS_ptr, nilS_ptr, nilS_func, nilS_yield, pickS_bool, ldS_ptr, list_cells, list_ro, partS_none, lenSl_of, lenStr_of, cvInt_of, aminmax_max, aminmax_min, abin_add, abin_sub, abin_mul, abin_eql, abin_neq, abin_lss, abin_leq, abin_gtr, abin_geq, aunary_not, aextract]) (fun hlt => m_skip ?_) (fun hlt => m_exit ?_)
  · have hlt : i < l.length := by have := of_decide_eq_true hlt; omega
    simp only
    obtain ⟨s, hsi⟩ : ∃ s, l[i]? = some s := ⟨_, List.getElem?_eq_getElem hlt⟩
    obtain ⟨x, a, o, L, q1, q2, q3, q4, q5, _⟩ := ha.at wf (fun y _ => rfl) hsi
    have hx := at2 q3 q4
    unfold blk15_1
    refine m_seq (m_block (m_reg ?_))
    rw [reg15_5]
    obtain ⟨k, hk1, hk2⟩ : ∃ k : Nat, aminmax false [.int .i64 (s.bytes.length : Int), .int .i64 5000] = some (.int .i64 k) ∧ k ≤ 5000 := by
      rw [aminmax_min]
      by_cases h : (5000 : Int) < s.bytes.length
      · exact ⟨5000, by rw [if_pos h]; rfl, Nat.le_refl _⟩
      · exact ⟨s.bytes.length, by rw [if_neg h], by omega⟩
    have hw : IntKind.i64.wrap ((n : Int) + (k : Int)) = ((n + k : Nat) : Int) := by rw [wrap_i64 (by omega) (by omega)]; rfl
    simp only [FT.get_set, t0, t3, t4]
    refine ⟨_, q1, _, rfl, x, by rw [ldS_ptr, q2]; exact hx, _, q5.len, _, hk1, _, (abin_add _ _ _ _ _ _ _).trans (by rw [hw]), ?_⟩
    refine m_reg ?_
    rw [reg15_4]
    have hwi : IntKind.i64.wrap ((i : Int) + 1) = ((i + 1 : Nat) : Int) := by rw [wrap_i64 (by omega) (by omega)]; rfl
    simp (decide := true) only [FT.get_set, FT.setL, faS_ptr, nilS_ptr, nilS_func, nilS_yield, pickS_bool, ldS_ptr, list_cells, list_ro, partS_none, lenSl_of, lenStr_of, cvInt_of, aminmax_max, aminmax_min, abin_add, abin_sub, abin_mul, abin_eql, abin_neq, abin_lss, abin_leq, abin_gtr, abin_geq, aunary_not, aextract, Option.some.injEq, Prod.mk.injEq, Value.bool.injEq, exists_eq_left', exists_and_left, and_assoc, decide_eq_true_eq, decide_eq_false_iff_not, if_true, if_false, Nat.zero_add, Nat.add_zero, Option.bind_some, true_and, and_true, forall_const, true_implies, Bool.not_eq_true, Bool.false_eq_true, false_implies, ite_self, Nat.mul_one, t4, hwi]
    refine ⟨m - 1, by omega, i + 1, by omega, n + k, by omega, ?_⟩
    simp [FT.get_set, t0]
  · simp only [if_true]
    refine m_seq (m_reg ?_)
    rw [reg15_6]
    simp (decide := true) only [FT.get_set, FT.setL, faS_ptr, nilS_ptr, nilS_func, nilS_yield, pickS_bool, ldS_ptr, list_cells, list_ro, partS_none, lenSl_of, lenStr_of, cvInt_of, aminmax_max, aminmax_min, abin_add, abin_sub, abin_mul, abin_eql, abin_neq, abin_lss, abin_leq, abin_gtr, abin_geq, aunary_not, aextract, Option.some.injEq, Prod.mk.injEq, Value.bool.injEq, exists_eq_left', exists_and_left, and_assoc, decide_eq_true_eq, decide_eq_false_iff_not, if_true, if_false, Nat.zero_add, Nat.add_zero, Option.bind_some, true_and, and_true, forall_const, true_implies, Bool.not_eq_true, Bool.false_eq_true, false_implies, ite_self, Nat.mul_one, t0, t3, ha.len]
    refine ⟨fun h50 => ?_, fun h50 => ?_⟩
    · refine m_ret ?_
      simp [resM, FT.get_set, FT.setL, faS_ptr, nilS_ptr, nilS_func, nilS_yield, pickS_bool, ldS_ptr, list_cells, list_ro, partS_none, lenSl_of, lenStr_of, cvInt_of, aminmax_max, aminmax_min, abin_add, abin_sub, abin_mul, abin_eql, abin_neq, abin_lss, abin_leq, abin_gtr, abin_geq, aunary_not, aextract, oneOrTuple]
      refine hq _ fun _ => ?_
      omega
    · refine m_ret ?_
      simp [resM, FT.get_set, FT.setL, faS_ptr, nilS_ptr, nilS_func, nilS_yield, pickS_bool, ldS_ptr, list_cells, list_ro, partS_none, lenSl_of, lenStr_of, cvInt_of, aminmax_max, aminmax_min, abin_add, abin_sub, abin_mul, abin_eql, abin_neq, abin_lss, abin_leq, abin_gtr, abin_geq, aunary_not, aextract, oneOrTuple]
      rw [if_neg h50]
      exact hq false fun h => by cases h
end Go.Proofs.Ytmfmbadfgnhonaa

