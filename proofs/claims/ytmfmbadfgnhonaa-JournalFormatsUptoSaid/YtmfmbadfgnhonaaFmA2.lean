/-
  The walk through the journal's code: what its functions do to memory, part FmA2. Nothing is asked.
-/
import Derived.Test.YtmfmbadfgnhonaaFmA1
set_option linter.all false
namespace Go.Proofs.Ytmfmbadfgnhonaa
open Go Go.Ag
set_option linter.unusedVariables false
set_option maxRecDepth 100000

theorem nonR (S : MS) : SlF svF 1 S 0 (.slice none 0 0) [] ∧ RBs S [] [] := ⟨.non, rfl, fun i x r hx => by cases hx⟩

/-- from the last Format on -/
theorem tail5 {S : MS} {d : Nat} {D : DK} {c0 : Nat → List UInt8} {W : List (Nat × List UInt8)} {w : Value} {first : List UInt8} {T : FT} (h : IsD S d D) (hw : HW S D c0 W) (hr : Runs D) (hn : 64 ≤ D.made.length ∧ D.made.length ≤ 120) (hb : RB S w first) (hon : ∀ y, On w y → FrD S d D y) (hbl : first.length ≤ 500) (hws : D.ws.length ≤ 900000) (t3 : T.get 3 = w) (t9 : T.get 9 = .pointer (some ⟨d, 0, none⟩)) :
    MWp Try.prog O 135 (.seq (.region 26 (ro 5 26) false) (.seq (.region 27 (ro 5 27) false) (.seq (.region 28 (ro 5 28) false) .ret))) T S fun x T' S' => x = .ret ∧ T'.get 8 = .bool true := by
  refine m_wf fun wf => m_seq (m_reg ?_)
  rw [reg5_26]
  simp (decide := true) only [FT.get_set, FT.setL, faS_ptr, nilS_ptr, nilS_func, nilS_yield, pickS_bool, ldS_ptr, list_cells, list_ro, partS_none, lenSl_of, lenStr_of, cvInt_of, aminmax_max, aminmax_min, abin_add, abin_sub, abin_mul, abin_eql, abin_neq, abin_lss, abin_leq, abin_gtr, abin_geq, aunary_not, aextract, Option.some.injEq, Prod.mk.injEq, Value.bool.injEq, exists_eq_left', exists_and_left, and_assoc, decide_eq_true_eq, decide_eq_false_iff_not, if_true, if_false, Nat.zero_add, Nat.add_zero, Option.bind_some, true_and, and_true, forall_const, true_implies, Bool.not_eq_true, Bool.false_eq_true, false_implies, ite_self, Nat.mul_one, t3, t9]
  refine formatP h hw hr (by omega) hb hon (by omega) hws fun S2 D2 G2 says2 run2 ws2 md2 => ?_
  refine m_wf fun wf2 => m_seq (m_reg ?_)
  rw [reg5_27]
  simp (decide := true) only [FT.get_set, FT.setL, faS_ptr, nilS_ptr, nilS_func, nilS_yield, pickS_bool, ldS_ptr, list_cells, list_ro, partS_none, lenSl_of, lenStr_of, cvInt_of, aminmax_max, aminmax_min, abin_add, abin_sub, abin_mul, abin_eql, abin_neq, abin_lss, abin_leq, abin_gtr, abin_geq, aunary_not, aextract, Option.some.injEq, Prod.mk.injEq, Value.bool.injEq, exists_eq_left', exists_and_left, and_assoc, decide_eq_true_eq, decide_eq_false_iff_not, if_true, if_false, Nat.zero_add, Nat.add_zero, Option.bind_some, true_and, and_true, forall_const, true_implies, Bool.not_eq_true, Bool.false_eq_true, false_implies, ite_self, Nat.mul_one, t3, t9]
  have hl1 : liveN first [] = first.length + 8 := by unfold liveN; simp [wsum]
  refine openP G2.is G2.hw run2.1 (by rw [md2]; omega) says2 (by rw [hl1, md2]; omega) fun j rv S3 f3 _ _ hp3 => ?_
  simp (decide := true) only [FT.get_set, FT.setL, faS_ptr, nilS_ptr, nilS_func, nilS_yield, pickS_bool, ldS_ptr, list_cells, list_ro, partS_none, lenSl_of, lenStr_of, cvInt_of, aminmax_max, aminmax_min, abin_add, abin_sub, abin_mul, abin_eql, abin_neq, abin_lss, abin_leq, abin_gtr, abin_geq, aunary_not, aextract, Option.some.injEq, Prod.mk.injEq, Value.bool.injEq, exists_eq_left', exists_and_left, and_assoc, decide_eq_true_eq, decide_eq_false_iff_not, if_true, if_false, Nat.zero_add, Nat.add_zero, Option.bind_some, true_and, and_true, forall_const, true_implies, Bool.not_eq_true, Bool.false_eq_true, false_implies, ite_self, Nat.mul_one, List.getElem?_cons_zero, List.getElem?_cons_succ]
  have hb3 : RB S3 w first := (hb.keepOn fun y hy => (G2.fr y (hon y hy)).1).keep wf2 f3.2
  refine m_wf fun wf3 => m_seq (m_reg ?_)
  rw [reg5_28]
  have t3' : ∀ (a b c d' e f g h i j k l m : Value), True := fun _ _ _ _ _ _ _ _ _ _ _ _ _ => trivial
  refine ⟨.bool true, by simp [FT.get_set, FT.setL, faS_ptr, nilS_ptr, nilS_func, nilS_yield, pickS_bool, ldS_ptr, list_cells, list_ro, partS_none, lenSl_of, lenStr_of, cvInt_of, aminmax_max, aminmax_min, abin_add, abin_sub, abin_mul, abin_eql, abin_neq, abin_lss, abin_leq, abin_gtr, abin_geq, aunary_not, aextract], true, rfl, fun _ => ⟨.bool true, by simp [FT.get_set, FT.setL, faS_ptr, nilS_ptr, nilS_func, nilS_yield, pickS_bool, ldS_ptr, list_cells, list_ro, partS_none, lenSl_of, lenStr_of, cvInt_of, aminmax_max, aminmax_min, abin_add, abin_sub, abin_mul, abin_eql, abin_neq, abin_lss, abin_leq, abin_gtr, abin_geq, aunary_not, aextract], .bool true, rfl, true, rfl, fun _ => ?_, tf⟩, tf⟩
  simp only [FT.get_set, t3]
  simp (decide := true) only [if_false, if_true, t3]
  refine alike20 hp3.jj.isJ (by have := hp3.live; have := hp3.n; omega) hb3 (nonR S3).1 (nonR S3).2 fun S4 f4 => ?_
  have hb4 := hb3.keep wf3 f4.2
  refine ⟨.bool true, by simp [pickS_bool], true, rfl, fun _ => ?_, tf⟩
  refine weight21 hb4 (by omega) ?_
  have w1 : IntKind.i64.wrap ((first.length : Int) + 8) = ((first.length + 8 : Nat) : Int) := by rw [wrap_i64 (by omega) (by omega)]; rfl
  refine ⟨_, hb4.len, .int .i64 ((first.length + 8 : Nat) : Int), by rw [abin_add, w1], .bool true, by rw [abin_eql, beq_self_eq_true], .bool true, rfl, m_ret ?_⟩
  simp [FT.get_set]
end Go.Proofs.Ytmfmbadfgnhonaa

