/-
  The walk through the journal's code: what its functions do to memory, part PyJ9. Nothing is asked.
-/
import Derived.Test.YtmfmbadfgnhonaaPyJ8
set_option linter.all false
namespace Go.Proofs.Ytmfmbadfgnhonaa
open Go Go.Ag
set_option linter.unusedVariables false
set_option maxRecDepth 100000

theorem snap12 {X : Nat → Prop} {S : MS} {d j : Nat} {D : DK} {c0 : Nat → List UInt8} {W : List (Nat × List UInt8)} {rv v : Value} {half end' : Nat} {base b : List UInt8} {rs : List (List UInt8)} (h : IsD S d D) (hw : HW S D c0 W) (hj : JJ X S d D j rv half end' base rs false) (hn : 64 ≤ D.made.length ∧ D.made.length ≤ 2000) (hh : half ≤ 1) (hb : RB S v b) (hon : ∀ y, On v y → Fr S d D j rv y) (hbl : b.length ≤ 4611686018427387904) (hws : D.ws.length ≤ 900000) (hhalt : D.halt ≤ 9223372036854775807) (hX : ∀ y, X y → y < S.n) {Q : Value → MS → Prop}
    (q0 : 32 * D.made.length < b.length + 8 → Q (.int .i64 192) S)
    (q1 : b.length + 8 ≤ 32 * D.made.length → ∀ S' D', JGo S d D c0 W j rv S' D' (.slice none 0 0) (snapW D.made.length (1 - half) b) → JJ X S' d D' j (.slice none 0 0) (1 - half) (liveN b []) b [] false → Q (.int .i64 0) S')
    (q2 : b.length + 8 ≤ 32 * D.made.length → ∀ k S' D', k < (snapW D.made.length (1 - half) b).length → D'.cut = true → JGo S d D c0 W j rv S' D' rv ((snapW D.made.length (1 - half) b).take k) → JJ X S' d D' j rv half end' base rs true → Q (.int .i64 12) S') :
    CallM Try.prog O 12 [.pointer (some ⟨j, 0, none⟩), v] S Q := by
  refine callM_wf fun wf => ?_
  obtain ⟨bv, tv, rl, h1, h2, h3, h4, h5, h6⟩ := hj.ex
  refine callM_body (fnIs is12 body12 res12) (O_none (by decide)) (by simp) ?_
  refine m_seq (m_reg ?_)
  rw [reg12_0]
  refine m_seq (m_block (m_seq (m_reg ?_)))
  rw [reg12_1]
  simp (decide := true) only [FT.get_set, FT.setL, faS_ptr, nilS_ptr, nilS_func, nilS_yield, pickS_bool, ldS_ptr, list_cells, list_ro, partS_none, lenSl_of, lenStr_of, cvInt_of, aminmax_max, aminmax_min, abin_add, abin_sub, abin_mul, abin_eql, abin_neq, abin_lss, abin_leq, abin_gtr, abin_geq, aunary_not, aextract, Option.some.injEq, Prod.mk.injEq, Value.bool.injEq, exists_eq_left', exists_and_left, and_assoc, decide_eq_true_eq, decide_eq_false_iff_not, if_true, if_false, Nat.zero_add, Nat.add_zero, Option.bind_some, true_and, and_true, forall_const, true_implies, Bool.not_eq_true, Bool.false_eq_true, false_implies, ite_self, Nat.mul_one, list_of h1, jl6]
  refine m_cond (t := false) (by simp [evalT, FT.get_set, FT.setL, faS_ptr, nilS_ptr, nilS_func, nilS_yield, pickS_bool, ldS_ptr, list_cells, list_ro, partS_none, lenSl_of, lenStr_of, cvInt_of, aminmax_max, aminmax_min, abin_add, abin_sub, abin_mul, abin_eql, abin_neq, abin_lss, abin_leq, abin_gtr, abin_geq, aunary_not, aextract]) ff (fun _ => ?_)
  refine m_seq (m_reg ?_)
  rw [reg12_3]
  simp (decide := true) only [FT.get_set, FT.setL, faS_ptr, nilS_ptr, nilS_func, nilS_yield, pickS_bool, ldS_ptr, list_cells, list_ro, partS_none, lenSl_of, lenStr_of, cvInt_of, aminmax_max, aminmax_min, abin_add, abin_sub, abin_mul, abin_eql, abin_neq, abin_lss, abin_leq, abin_gtr, abin_geq, aunary_not, aextract, Option.some.injEq, Prod.mk.injEq, Value.bool.injEq, exists_eq_left', exists_and_left, and_assoc, decide_eq_true_eq, decide_eq_false_iff_not, if_true, if_false, Nat.zero_add, Nat.add_zero, Option.bind_some, true_and, and_true, forall_const, true_implies, Bool.not_eq_true, Bool.false_eq_true, false_implies, ite_self, Nat.mul_one, ]
  refine weight21 hb (by omega) (capacity14 h1 h (by omega) ?_)
  simp (decide := true) only [FT.get_set, FT.setL, faS_ptr, nilS_ptr, nilS_func, nilS_yield, pickS_bool, ldS_ptr, list_cells, list_ro, partS_none, lenSl_of, lenStr_of, cvInt_of, aminmax_max, aminmax_min, abin_add, abin_sub, abin_mul, abin_eql, abin_neq, abin_lss, abin_leq, abin_gtr, abin_geq, aunary_not, aextract, Option.some.injEq, Prod.mk.injEq, Value.bool.injEq, exists_eq_left', exists_and_left, and_assoc, decide_eq_true_eq, decide_eq_false_iff_not, if_true, if_false, Nat.zero_add, Nat.add_zero, Option.bind_some, true_and, and_true, forall_const, true_implies, Bool.not_eq_true, Bool.false_eq_true, false_implies, ite_self, Nat.mul_one, ]
  refine m_cond (t := decide (((b.length + 8 : Nat) : Int) > ((32 * D.made.length : Nat) : Int))) (by simp [evalT, FT.get_set, FT.setL, faS_ptr, nilS_ptr, nilS_func, nilS_yield, pickS_bool, ldS_ptr, list_cells, list_ro, partS_none, lenSl_of, lenStr_of, cvInt_of, aminmax_max, aminmax_min, abin_add, abin_sub, abin_mul, abin_eql, abin_neq, abin_lss, abin_leq, abin_gtr, abin_geq, aunary_not, aextract]) (fun hf => ?_) (fun hf => m_skip ?_)
  · have hf := of_decide_eq_true hf
    refine m_seq (m_reg ?_)
    rw [reg12_4]
    refine m_ret ?_
    simp [resM, FT.get_set, FT.setL, faS_ptr, nilS_ptr, nilS_func, nilS_yield, pickS_bool, ldS_ptr, list_cells, list_ro, partS_none, lenSl_of, lenStr_of, cvInt_of, aminmax_max, aminmax_min, abin_add, abin_sub, abin_mul, abin_eql, abin_neq, abin_lss, abin_leq, abin_gtr, abin_geq, aunary_not, aextract, oneOrTuple]
    exact q0 (by omega)
  have hf : b.length + 8 ≤ 32 * D.made.length := by have := of_decide_eq_false hf; omega
  have q1 := q1 hf
  have q2 := q2 hf
  simp only
  obtain ⟨h', hh'⟩ : ∃ h', h' = 1 - half := ⟨_, rfl⟩
  rw [← hh'] at q1 q2
  have hlb : (laid b).length = b.length + 8 := laid_len b
  -- the bytes
  refine m_seq (m_draw ?_)
  rw [reg12_5]
  simp (decide := true) only [FT.get_set, FT.setL, faS_ptr, nilS_ptr, nilS_func, nilS_yield, pickS_bool, ldS_ptr, list_cells, list_ro, partS_none, lenSl_of, lenStr_of, cvInt_of, aminmax_max, aminmax_min, abin_add, abin_sub, abin_mul, abin_eql, abin_neq, abin_lss, abin_leq, abin_gtr, abin_geq, aunary_not, aextract, Option.some.injEq, Prod.mk.injEq, Value.bool.injEq, exists_eq_left', exists_and_left, and_assoc, decide_eq_true_eq, decide_eq_false_iff_not, if_true, if_false, Nat.zero_add, Nat.add_zero, Option.bind_some, true_and, and_true, forall_const, true_implies, Bool.not_eq_true, Bool.false_eq_true, false_implies, ite_self, Nat.mul_one, ]
  refine callM_wf_post (laid31 hb (by omega) fun v6 S6 f6 s6 wf6 => ?_)
  have hj6 : S6.m j = some (.cells (jouL d half end' bv rv tv false) 0) := by rw [f6.2 j (wf _ _ h1)]; exact h1
  have w1 : IntKind.i64.wrap (1 - (half : Int)) = ((h' : Nat) : Int) := by rw [wrap_i64 (by omega) (by omega)]; omega
  simp (decide := true) only [FT.get_set, FT.setL, faS_ptr, nilS_ptr, nilS_func, nilS_yield, pickS_bool, ldS_ptr, list_cells, list_ro, partS_none, lenSl_of, lenStr_of, cvInt_of, aminmax_max, aminmax_min, abin_add, abin_sub, abin_mul, abin_eql, abin_neq, abin_lss, abin_leq, abin_gtr, abin_geq, aunary_not, aextract, Option.some.injEq, Prod.mk.injEq, Value.bool.injEq, exists_eq_left', exists_and_left, and_assoc, decide_eq_true_eq, decide_eq_false_iff_not, if_true, if_false, Nat.zero_add, Nat.add_zero, Option.bind_some, true_and, and_true, forall_const, true_implies, Bool.not_eq_true, Bool.false_eq_true, false_implies, ite_self, Nat.mul_one, list_of hj6, list_of h1, jl1, veq_int, w1]
  have hI6 := h.old' wf f6
  have hw6 := hw.old wf f6
  -- the pieces
  refine m_seq (m_seq (m_draw ?_))
  rw [reg12_6]
  simp (decide := true) only [FT.get_set, FT.setL, faS_ptr, nilS_ptr, nilS_func, nilS_yield, pickS_bool, ldS_ptr, list_cells, list_ro, partS_none, lenSl_of, lenStr_of, cvInt_of, aminmax_max, aminmax_min, abin_add, abin_sub, abin_mul, abin_eql, abin_neq, abin_lss, abin_leq, abin_gtr, abin_geq, aunary_not, aextract, Option.some.injEq, Prod.mk.injEq, Value.bool.injEq, exists_eq_left', exists_and_left, and_assoc, decide_eq_true_eq, decide_eq_false_iff_not, if_true, if_false, Nat.zero_add, Nat.add_zero, Option.bind_some, true_and, and_true, forall_const, true_implies, Bool.not_eq_true, Bool.false_eq_true, false_implies, ite_self, Nat.mul_one, list_of hj6, jl0]
  refine place33 hI6 (by omega) ⟨by omega, by omega⟩ ?_
  have hmul : h' * ((D.made.length - 1) / 2) ≤ 1 * ((D.made.length - 1) / 2) := Nat.mul_le_mul_right _ (by omega)
  have hpl : placeN D.made.length h' ≤ 1 + (D.made.length - 1) / 2 := by unfold placeN; omega
  have hpk2 : pieceK (laid b) ≤ 260 := by unfold pieceK; omega
  have hroom : placeN D.made.length h' + pieceK (laid b) ≤ D.made.length := by unfold pieceK; omega
  simp (decide := true) only [FT.get_set, FT.setL, faS_ptr, nilS_ptr, nilS_func, nilS_yield, pickS_bool, ldS_ptr, list_cells, list_ro, partS_none, lenSl_of, lenStr_of, cvInt_of, aminmax_max, aminmax_min, abin_add, abin_sub, abin_mul, abin_eql, abin_neq, abin_lss, abin_leq, abin_gtr, abin_geq, aunary_not, aextract, Option.some.injEq, Prod.mk.injEq, Value.bool.injEq, exists_eq_left', exists_and_left, and_assoc, decide_eq_true_eq, decide_eq_false_iff_not, if_true, if_false, Nat.zero_add, Nat.add_zero, Option.bind_some, true_and, and_true, forall_const, true_implies, Bool.not_eq_true, Bool.false_eq_true, false_implies, ite_self, Nat.mul_one, list_of hj6, jl0, veq_ptr]
  refine writes32 hI6 hw6 (RB.own s6) (fun y hy => ?_) (by omega) hroom (by omega) hhalt fun r k D8 S8 hk8 g8 hr8 => ?_
  · exact FrD.new h wf (SlF.on s6 hy) ((RB.own s6).on_lt wf6 hy)
  have G7 : JGo S d D c0 W j rv S6 D rv [] := (JGo.refl h hw).old wf f6
  have G8 : JGo S d D c0 W j rv S8 D8 rv _ := G7.goes (by rw [List.append_nil]; exact g8)
  rw [List.nil_append] at G8
  have J8 : JJ X S8 d D8 j rv half end' base rs false := (hj.old f6).keep g8.fr
  have hAl : (snapW D.made.length h' b).length = pieceK (laid b) + 1 := by unfold snapW; rw [List.length_append, piecesN_len]; rfl
  obtain ⟨bv', tv', rl', k1, k2, k3, k4, k5, k6⟩ := J8.ex
  refine m_wf fun wf8 => m_seq (m_reg ?_)
  rw [reg12_7]
  rcases hr8 with ⟨rfl, rfl⟩ | ⟨hkl, hcut, rfl⟩
  case inr =>
    have hne : ((12 : Int) != 0) = true := by decide
    simp (decide := true) only [FT.get_set, FT.setL, faS_ptr, nilS_ptr, nilS_func, nilS_yield, pickS_bool, ldS_ptr, list_cells, list_ro, partS_none, lenSl_of, lenStr_of, cvInt_of, aminmax_max, aminmax_min, abin_add, abin_sub, abin_mul, abin_eql, abin_neq, abin_lss, abin_leq, abin_gtr, abin_geq, aunary_not, aextract, Option.some.injEq, Prod.mk.injEq, Value.bool.injEq, exists_eq_left', exists_and_left, and_assoc, decide_eq_true_eq, decide_eq_false_iff_not, if_true, if_false, Nat.zero_add, Nat.add_zero, Option.bind_some, true_and, and_true, forall_const, true_implies, Bool.not_eq_true, Bool.false_eq_true, false_implies, ite_self, Nat.mul_one, hne]
    refine m_cond (t := true) (by simp [evalT, FT.get_set, FT.setL, faS_ptr, nilS_ptr, nilS_func, nilS_yield, pickS_bool, ldS_ptr, list_cells, list_ro, partS_none, lenSl_of, lenStr_of, cvInt_of, aminmax_max, aminmax_min, abin_add, abin_sub, abin_mul, abin_eql, abin_neq, abin_lss, abin_leq, abin_gtr, abin_geq, aunary_not, aextract]) (fun _ => ?_) tf
    refine m_seq (m_reg ?_)
    rw [reg12_8]
    simp (decide := true) only [FT.get_set, FT.setL, faS_ptr, nilS_ptr, nilS_func, nilS_yield, pickS_bool, ldS_ptr, list_cells, list_ro, partS_none, lenSl_of, lenStr_of, cvInt_of, aminmax_max, aminmax_min, abin_add, abin_sub, abin_mul, abin_eql, abin_neq, abin_lss, abin_leq, abin_gtr, abin_geq, aunary_not, aextract, Option.some.injEq, Prod.mk.injEq, Value.bool.injEq, exists_eq_left', exists_and_left, and_assoc, decide_eq_true_eq, decide_eq_false_iff_not, if_true, if_false, Nat.zero_add, Nat.add_zero, Option.bind_some, true_and, and_true, forall_const, true_implies, Bool.not_eq_true, Bool.false_eq_true, false_implies, ite_self, Nat.mul_one, ]
    refine dies41J J8 12 (by decide) fun S9 J9 n9 e9 => ?_
    refine m_ret ?_
    simp [resM, FT.get_set, FT.setL, faS_ptr, nilS_ptr, nilS_func, nilS_yield, pickS_bool, ldS_ptr, list_cells, list_ro, partS_none, lenSl_of, lenStr_of, cvInt_of, aminmax_max, aminmax_min, abin_add, abin_sub, abin_mul, abin_eql, abin_neq, abin_lss, abin_leq, abin_gtr, abin_geq, aunary_not, aextract, oneOrTuple]
    refine q2 k S9 D8 (by omega) hcut ?_ J9
    rw [show (snapW D.made.length h' b).take k = (piecesN (laid b) (placeN D.made.length h')).take k from take_app_le _ _ (by rw [piecesN_len]; omega)]
    exact G8.touch wf8 J8.fj.1 k1 (jlen _ _ _ _ _ _ _) n9 e9
  have htk : (piecesN (laid b) (placeN D.made.length h')).take (pieceK (laid b)) = piecesN (laid b) (placeN D.made.length h') := by
    rw [← piecesN_len (laid b) (placeN D.made.length h'), List.take_length]
  rw [htk] at G8
  simp (decide := true) only [FT.get_set, FT.setL, faS_ptr, nilS_ptr, nilS_func, nilS_yield, pickS_bool, ldS_ptr, list_cells, list_ro, partS_none, lenSl_of, lenStr_of, cvInt_of, aminmax_max, aminmax_min, abin_add, abin_sub, abin_mul, abin_eql, abin_neq, abin_lss, abin_leq, abin_gtr, abin_geq, aunary_not, aextract, Option.some.injEq, Prod.mk.injEq, Value.bool.injEq, exists_eq_left', exists_and_left, and_assoc, decide_eq_true_eq, decide_eq_false_iff_not, if_true, if_false, Nat.zero_add, Nat.add_zero, Option.bind_some, true_and, and_true, forall_const, true_implies, Bool.not_eq_true, Bool.false_eq_true, false_implies, ite_self, Nat.mul_one, bne_self_eq_false]
  refine m_cond (t := false) (by simp [evalT, FT.get_set, FT.setL, faS_ptr, nilS_ptr, nilS_func, nilS_yield, pickS_bool, ldS_ptr, list_cells, list_ro, partS_none, lenSl_of, lenStr_of, cvInt_of, aminmax_max, aminmax_min, abin_add, abin_sub, abin_mul, abin_eql, abin_neq, abin_lss, abin_leq, abin_gtr, abin_geq, aunary_not, aextract]) ff (fun _ => m_skip ?_)
  simp only
  have hE : ∀ y, FrD S6 d D y → S8.m y = S6.m y := fun y hy => (g8.fr y hy).1
  have hb8 : RB S8 v b := (hb.keep wf f6.2).keepOn fun y hy => hE y ((hon y hy).1.old f6)
  have hon8 : ∀ y, On v y → Fr S8 d D8 j rv y := fun y hy => ((G8.fr y (hon y hy)).2)
  have hl8 : RB S8 v6 (laid b) := (RB.own s6).keepOn fun y hy => hE y (FrD.new h wf (SlF.on s6 hy) ((RB.own s6).on_lt wf6 hy))
  have hmd : D8.made = D.made := G8.wn.made
  -- the first block
  refine m_seq (m_seq (m_draw ?_))
  rw [reg12_9]
  have hl6 := s6.lenSl
  simp (decide := true) only [FT.get_set, FT.setL, faS_ptr, nilS_ptr, nilS_func, nilS_yield, pickS_bool, ldS_ptr, list_cells, list_ro, partS_none, lenSl_of, lenStr_of, cvInt_of, aminmax_max, aminmax_min, abin_add, abin_sub, abin_mul, abin_eql, abin_neq, abin_lss, abin_leq, abin_gtr, abin_geq, aunary_not, aextract, Option.some.injEq, Prod.mk.injEq, Value.bool.injEq, exists_eq_left', exists_and_left, and_assoc, decide_eq_true_eq, decide_eq_false_iff_not, if_true, if_false, Nat.zero_add, Nat.add_zero, Option.bind_some, true_and, and_true, forall_const, true_implies, Bool.not_eq_true, Bool.false_eq_true, false_implies, ite_self, Nat.mul_one, hl6]
  refine callM_wf_post (head34 h' (laid b).length (by omega) (by omega) fun v10 S10 f10 s10 wf10 => ?_)
  have hj10 : S10.m j = some (.cells (jouL d half end' bv' rv tv' false) 0) := by rw [f10.2 j (wf8 _ _ k1)]; exact k1
  have G10 := G8.old wf8 f10
  have J10 := J8.old f10
  have hws8 := G10.wn.ws
  rw [piecesN_len] at hws8
  simp (decide := true) only [FT.get_set, FT.setL, faS_ptr, nilS_ptr, nilS_func, nilS_yield, pickS_bool, ldS_ptr, list_cells, list_ro, partS_none, lenSl_of, lenStr_of, cvInt_of, aminmax_max, aminmax_min, abin_add, abin_sub, abin_mul, abin_eql, abin_neq, abin_lss, abin_leq, abin_gtr, abin_geq, aunary_not, aextract, Option.some.injEq, Prod.mk.injEq, Value.bool.injEq, exists_eq_left', exists_and_left, and_assoc, decide_eq_true_eq, decide_eq_false_iff_not, if_true, if_false, Nat.zero_add, Nat.add_zero, Option.bind_some, true_and, and_true, forall_const, true_implies, Bool.not_eq_true, Bool.false_eq_true, false_implies, ite_self, Nat.mul_one, list_of hj10, list_of k1, jl0, veq_ptr]
  refine writeW G10.is G10.hw (i := 0) (by rw [hmd]; omega) s10 (headB_len _ _) (by omega) (Int.le_trans G10.wn.halt hhalt) (fun hcut => ?_) (fun hcut D11 S11 g11 => ?_)
  · refine m_seq (m_reg ?_)
    rw [reg12_10]
    have hne : ((12 : Int) != 0) = true := by decide
    simp (decide := true) only [FT.get_set, FT.setL, faS_ptr, nilS_ptr, nilS_func, nilS_yield, pickS_bool, ldS_ptr, list_cells, list_ro, partS_none, lenSl_of, lenStr_of, cvInt_of, aminmax_max, aminmax_min, abin_add, abin_sub, abin_mul, abin_eql, abin_neq, abin_lss, abin_leq, abin_gtr, abin_geq, aunary_not, aextract, Option.some.injEq, Prod.mk.injEq, Value.bool.injEq, exists_eq_left', exists_and_left, and_assoc, decide_eq_true_eq, decide_eq_false_iff_not, if_true, if_false, Nat.zero_add, Nat.add_zero, Option.bind_some, true_and, and_true, forall_const, true_implies, Bool.not_eq_true, Bool.false_eq_true, false_implies, ite_self, Nat.mul_one, hne]
    refine m_cond (t := true) (by simp [evalT, FT.get_set, FT.setL, faS_ptr, nilS_ptr, nilS_func, nilS_yield, pickS_bool, ldS_ptr, list_cells, list_ro, partS_none, lenSl_of, lenStr_of, cvInt_of, aminmax_max, aminmax_min, abin_add, abin_sub, abin_mul, abin_eql, abin_neq, abin_lss, abin_leq, abin_gtr, abin_geq, aunary_not, aextract]) (fun _ => ?_) tf
    refine m_seq (m_reg ?_)
    rw [reg12_11]
    simp (decide := true) only [FT.get_set, FT.setL, faS_ptr, nilS_ptr, nilS_func, nilS_yield, pickS_bool, ldS_ptr, list_cells, list_ro, partS_none, lenSl_of, lenStr_of, cvInt_of, aminmax_max, aminmax_min, abin_add, abin_sub, abin_mul, abin_eql, abin_neq, abin_lss, abin_leq, abin_gtr, abin_geq, aunary_not, aextract, Option.some.injEq, Prod.mk.injEq, Value.bool.injEq, exists_eq_left', exists_and_left, and_assoc, decide_eq_true_eq, decide_eq_false_iff_not, if_true, if_false, Nat.zero_add, Nat.add_zero, Option.bind_some, true_and, and_true, forall_const, true_implies, Bool.not_eq_true, Bool.false_eq_true, false_implies, ite_self, Nat.mul_one, ]
    refine dies41J J10 12 (by decide) fun S11 J11 n11 e11 => ?_
    refine m_ret ?_
    simp [resM, FT.get_set, FT.setL, faS_ptr, nilS_ptr, nilS_func, nilS_yield, pickS_bool, ldS_ptr, list_cells, list_ro, partS_none, lenSl_of, lenStr_of, cvInt_of, aminmax_max, aminmax_min, abin_add, abin_sub, abin_mul, abin_eql, abin_neq, abin_lss, abin_leq, abin_gtr, abin_geq, aunary_not, aextract, oneOrTuple]
    refine q2 (pieceK (laid b)) S11 D8 (by omega) hcut ?_ J11
    rw [show (snapW D.made.length h' b).take (pieceK (laid b)) = (piecesN (laid b) (placeN D.made.length h')).take (pieceK (laid b)) from take_app_le _ _ (by rw [piecesN_len]; omega), htk]
    exact G10.touch wf10 J10.fj.1 hj10 (jlen _ _ _ _ _ _ _) n11 e11
  · refine m_wf fun wf11 => m_seq (m_reg ?_)
    rw [reg12_10]
    simp (decide := true) only [FT.get_set, FT.setL, faS_ptr, nilS_ptr, nilS_func, nilS_yield, pickS_bool, ldS_ptr, list_cells, list_ro, partS_none, lenSl_of, lenStr_of, cvInt_of, aminmax_max, aminmax_min, abin_add, abin_sub, abin_mul, abin_eql, abin_neq, abin_lss, abin_leq, abin_gtr, abin_geq, aunary_not, aextract, Option.some.injEq, Prod.mk.injEq, Value.bool.injEq, exists_eq_left', exists_and_left, and_assoc, decide_eq_true_eq, decide_eq_false_iff_not, if_true, if_false, Nat.zero_add, Nat.add_zero, Option.bind_some, true_and, and_true, forall_const, true_implies, Bool.not_eq_true, Bool.false_eq_true, false_implies, ite_self, Nat.mul_one, bne_self_eq_false]
    refine m_cond (t := false) (by simp [evalT, FT.get_set, FT.setL, faS_ptr, nilS_ptr, nilS_func, nilS_yield, pickS_bool, ldS_ptr, list_cells, list_ro, partS_none, lenSl_of, lenStr_of, cvInt_of, aminmax_max, aminmax_min, abin_add, abin_sub, abin_mul, abin_eql, abin_neq, abin_lss, abin_leq, abin_gtr, abin_geq, aunary_not, aextract]) ff (fun _ => m_skip ?_)
    simp only
    have G11 := G10.goes g11
    have J11 := J10.keep g11.fr
    have hv11 : RB S11 v b := (hb8.keep wf8 f10.2).keepOn fun y hy => (g11.fr y ((hon8 y hy).1.old f10)).1
    have hon11 : ∀ y, On v y → Fr S11 d D11 j rv y := fun y hy => ⟨(g11.fr y ((hon8 y hy).1.old f10)).2, (hon8 y hy).2⟩
    have hl11 : RB S11 v6 (laid b) := (hl8.keep wf8 f10.2).keepOn fun y hy => by
      have k3 : FrD S8 d D8 y := (g8.fr y (FrD.new h wf (SlF.on s6 hy) ((RB.own s6).on_lt wf6 hy))).2
      exact (g11.fr y (k3.old f10)).1
    refine (fin12 (b := b) (v := v) (v6 := v6) (half' := h') G11 wf11 J11 hv11 hon11 hl11 (by omega) (fun y hy => Nat.lt_of_lt_of_le (hX y hy) G11.le) (by simp [FT.get_set, FT.setL, faS_ptr, nilS_ptr, nilS_func, nilS_yield, pickS_bool, ldS_ptr, list_cells, list_ro, partS_none, lenSl_of, lenStr_of, cvInt_of, aminmax_max, aminmax_min, abin_add, abin_sub, abin_mul, abin_eql, abin_neq, abin_lss, abin_leq, abin_gtr, abin_geq, aunary_not, aextract]) (by simp [FT.get_set, FT.setL, faS_ptr, nilS_ptr, nilS_func, nilS_yield, pickS_bool, ldS_ptr, list_cells, list_ro, partS_none, lenSl_of, lenStr_of, cvInt_of, aminmax_max, aminmax_min, abin_add, abin_sub, abin_mul, abin_eql, abin_neq, abin_lss, abin_leq, abin_gtr, abin_geq, aunary_not, aextract]) (by simp [FT.get_set, FT.setL, faS_ptr, nilS_ptr, nilS_func, nilS_yield, pickS_bool, ldS_ptr, list_cells, list_ro, partS_none, lenSl_of, lenStr_of, cvInt_of, aminmax_max, aminmax_min, abin_add, abin_sub, abin_mul, abin_eql, abin_neq, abin_lss, abin_leq, abin_gtr, abin_geq, aunary_not, aextract]) (by simp [FT.get_set, FT.setL, faS_ptr, nilS_ptr, nilS_func, nilS_yield, pickS_bool, ldS_ptr, list_cells, list_ro, partS_none, lenSl_of, lenStr_of, cvInt_of, aminmax_max, aminmax_min, abin_add, abin_sub, abin_mul, abin_eql, abin_neq, abin_lss, abin_leq, abin_gtr, abin_geq, aunary_not, aextract])).mono ?_
    rintro x T' S12 ⟨rfl, t4, G12, J12⟩
    simp [resM, t4, oneOrTuple]
    exact q1 S12 D11 G12 J12
end Go.Proofs.Ytmfmbadfgnhonaa
namespace Go.Proofs.Ytmfmbadfgnhonaa
open Go Go.Ag
set_option linter.unusedVariables false
set_option maxRecDepth 100000

/-- the writes of a Format -/
def formW (n : Nat) (b : List UInt8) : List (Nat × List UInt8) := (0, List.replicate 256 0) :: snapW n 0 b

theorem format9 {S : MS} {d : Nat} {D : DK} {c0 : Nat → List UInt8} {W : List (Nat × List UInt8)} {v : Value} {b : List UInt8} (h : IsD S d D) (hw : HW S D c0 W) (hn : 64 ≤ D.made.length ∧ D.made.length ≤ 2000) (hb : RB S v b) (hon : ∀ y, On v y → FrD S d D y) (hbl : b.length + 8 ≤ 32 * D.made.length) (hws : D.ws.length ≤ 900000) (hhalt : D.halt ≤ 9223372036854775807) {Q : Value → MS → Prop}
    (q1 : ∀ S' D', Goes S d D c0 W S' D' (formW D.made.length b) → Q (.int .i64 0) S')
    (q2 : ∀ k S' D', k < (formW D.made.length b).length → D'.cut = true → Goes S d D c0 W S' D' ((formW D.made.length b).take k) → Q (.int .i64 12) S') :
    CallM Try.prog O 9 [.pointer (some ⟨d, 0, none⟩), v] S Q := by
  refine callM_wf fun wf => ?_
  refine callM_body (fnIs is9 body9 res9) (O_none (by decide)) (by simp) ?_
  refine m_seq (m_reg ?_)
  rw [reg9_0]
  refine m_seq (m_block (m_seq (m_reg ?_)))
  rw [reg9_1]
  simp (decide := true) only [FT.get_set, FT.setL, faS_ptr, nilS_ptr, nilS_func, nilS_yield, pickS_bool, ldS_ptr, list_cells, list_ro, partS_none, lenSl_of, lenStr_of, cvInt_of, aminmax_max, aminmax_min, abin_add, abin_sub, abin_mul, abin_eql, abin_neq, abin_lss, abin_leq, abin_gtr, abin_geq, aunary_not, aextract, Option.some.injEq, Prod.mk.injEq, Value.bool.injEq, exists_eq_left', exists_and_left, and_assoc, decide_eq_true_eq, decide_eq_false_iff_not, if_true, if_false, Nat.zero_add, Nat.add_zero, Option.bind_some, true_and, and_true, forall_const, true_implies, Bool.not_eq_true, Bool.false_eq_true, false_implies, ite_self, Nat.mul_one, ]
  refine blocksD h ?_
  have hd : ¬ ((D.made.length : Int) < 64) := by omega
  simp (decide := true) only [FT.get_set, FT.setL, faS_ptr, nilS_ptr, nilS_func, nilS_yield, pickS_bool, ldS_ptr, list_cells, list_ro, partS_none, lenSl_of, lenStr_of, cvInt_of, aminmax_max, aminmax_min, abin_add, abin_sub, abin_mul, abin_eql, abin_neq, abin_lss, abin_leq, abin_gtr, abin_geq, aunary_not, aextract, Option.some.injEq, Prod.mk.injEq, Value.bool.injEq, exists_eq_left', exists_and_left, and_assoc, decide_eq_true_eq, decide_eq_false_iff_not, if_true, if_false, Nat.zero_add, Nat.add_zero, Option.bind_some, true_and, and_true, forall_const, true_implies, Bool.not_eq_true, Bool.false_eq_true, false_implies, ite_self, Nat.mul_one, hd]
  refine m_cond (t := false) (by simp [evalT, FT.get_set, FT.setL, faS_ptr, nilS_ptr, nilS_func, nilS_yield, pickS_bool, ldS_ptr, list_cells, list_ro, partS_none, lenSl_of, lenStr_of, cvInt_of, aminmax_max, aminmax_min, abin_add, abin_sub, abin_mul, abin_eql, abin_neq, abin_lss, abin_leq, abin_gtr, abin_geq, aunary_not, aextract, hd]) ff (fun _ => ?_)
  refine m_seq (m_reg ?_)
  rw [reg9_3]
  simp (decide := true) only [FT.get_set, FT.setL, faS_ptr, nilS_ptr, nilS_func, nilS_yield, pickS_bool, ldS_ptr, list_cells, list_ro, partS_none, lenSl_of, lenStr_of, cvInt_of, aminmax_max, aminmax_min, abin_add, abin_sub, abin_mul, abin_eql, abin_neq, abin_lss, abin_leq, abin_gtr, abin_geq, aunary_not, aextract, Option.some.injEq, Prod.mk.injEq, Value.bool.injEq, exists_eq_left', exists_and_left, and_assoc, decide_eq_true_eq, decide_eq_false_iff_not, if_true, if_false, Nat.zero_add, Nat.add_zero, Option.bind_some, true_and, and_true, forall_const, true_implies, Bool.not_eq_true, Bool.false_eq_true, false_implies, ite_self, Nat.mul_one, ]
  refine weight21 hb (by omega) (capacity29 h (by omega) ?_)
  have hf : ¬ (((b.length + 8 : Nat) : Int) > ((32 * D.made.length : Nat) : Int)) := by omega
  simp (decide := true) only [FT.get_set, FT.setL, faS_ptr, nilS_ptr, nilS_func, nilS_yield, pickS_bool, ldS_ptr, list_cells, list_ro, partS_none, lenSl_of, lenStr_of, cvInt_of, aminmax_max, aminmax_min, abin_add, abin_sub, abin_mul, abin_eql, abin_neq, abin_lss, abin_leq, abin_gtr, abin_geq, aunary_not, aextract, Option.some.injEq, Prod.mk.injEq, Value.bool.injEq, exists_eq_left', exists_and_left, and_assoc, decide_eq_true_eq, decide_eq_false_iff_not, if_true, if_false, Nat.zero_add, Nat.add_zero, Option.bind_some, true_and, and_true, forall_const, true_implies, Bool.not_eq_true, Bool.false_eq_true, false_implies, ite_self, Nat.mul_one, hf]
  refine m_cond (t := false) (by simp [evalT, FT.get_set, FT.setL, faS_ptr, nilS_ptr, nilS_func, nilS_yield, pickS_bool, ldS_ptr, list_cells, list_ro, partS_none, lenSl_of, lenStr_of, cvInt_of, aminmax_max, aminmax_min, abin_add, abin_sub, abin_mul, abin_eql, abin_neq, abin_lss, abin_leq, abin_gtr, abin_geq, aunary_not, aextract, hf]) ff (fun _ => m_skip ?_)
  simp only
  have hlb : (laid b).length = b.length + 8 := laid_len b
  have hne : ((12 : Int) != 0) = true := by decide
  have hpk2 : pieceK (laid b) ≤ 260 := by unfold pieceK; omega
  have hAl : (formW D.made.length b).length = pieceK (laid b) + 2 := by unfold formW snapW; rw [List.length_cons, List.length_append, piecesN_len]; rfl
  -- noughts
  refine m_seq (m_seq (m_reg ?_))
  rw [reg9_5]
  have hms : msS S 1 1 [.int .u8 0] (.int .i64 256) (.int .i64 256) = some (.slice (some ⟨S.n, 0, none⟩) 256 256, S.fresh (bL (List.replicate 256 0)) 1) := by
    have hz : zeros [.int .u8 0] 256 = bL (List.replicate 256 0) := by rw [zeros_one, bL_rep]
    rw [← hz]; exact msS_of (n := 256) S 1 1 [.int .u8 0] .i64 .i64 (by omega) (by omega)
  simp (decide := true) only [FT.get_set, FT.setL, faS_ptr, nilS_ptr, nilS_func, nilS_yield, pickS_bool, ldS_ptr, list_cells, list_ro, partS_none, lenSl_of, lenStr_of, cvInt_of, aminmax_max, aminmax_min, abin_add, abin_sub, abin_mul, abin_eql, abin_neq, abin_lss, abin_leq, abin_gtr, abin_geq, aunary_not, aextract, Option.some.injEq, Prod.mk.injEq, Value.bool.injEq, exists_eq_left', exists_and_left, and_assoc, decide_eq_true_eq, decide_eq_false_iff_not, if_true, if_false, Nat.zero_add, Nat.add_zero, Option.bind_some, true_and, and_true, forall_const, true_implies, Bool.not_eq_true, Bool.false_eq_true, false_implies, ite_self, Nat.mul_one, hms]
  obtain ⟨S1, hS1⟩ : ∃ S1, S1 = S.fresh (bL (List.replicate 256 0)) 1 := ⟨_, rfl⟩
  have f1 : Old S S1 := by rw [hS1]; exact old_fresh _ _ _
  have wf1 : S1.WF := by rw [hS1]; exact wf_fresh' wf _ _
  have s1 : SlF bF 1 S1 S.n (.slice (some ⟨S.n, 0, none⟩) 256 256) (List.replicate 256 0) := by
    have := SlF.own (f := bF) (sz := 1) (S := S1) (B := S.n) (b := S.n) (cap := 256) (l := List.replicate 256 0) (junk := []) (by rw [List.append_nil, bF_flat, hS1]; exact fresh_at S _ 1) (Nat.le_refl _) (.inr ⟨by decide, by rw [List.append_nil, List.length_replicate]⟩) (by rw [List.append_nil, List.length_replicate]; omega)
    rwa [List.length_replicate] at this
  rw [← hS1]
  have G1 : Goes S d D c0 W S1 D [] := Goes.old h hw wf f1
  have hw1 : HW S1 D c0 W := hw.old wf f1
  refine writeW (h.old' wf f1) hw1 (i := 0) (by omega) s1 (by rw [List.length_replicate]) (by omega) hhalt (fun hcut => ?_) (fun hcut D2 S2 g2 => ?_)
  · refine m_seq (m_reg ?_)
    rw [reg9_6]
    simp (decide := true) only [FT.get_set, FT.setL, faS_ptr, nilS_ptr, nilS_func, nilS_yield, pickS_bool, ldS_ptr, list_cells, list_ro, partS_none, lenSl_of, lenStr_of, cvInt_of, aminmax_max, aminmax_min, abin_add, abin_sub, abin_mul, abin_eql, abin_neq, abin_lss, abin_leq, abin_gtr, abin_geq, aunary_not, aextract, Option.some.injEq, Prod.mk.injEq, Value.bool.injEq, exists_eq_left', exists_and_left, and_assoc, decide_eq_true_eq, decide_eq_false_iff_not, if_true, if_false, Nat.zero_add, Nat.add_zero, Option.bind_some, true_and, and_true, forall_const, true_implies, Bool.not_eq_true, Bool.false_eq_true, false_implies, ite_self, Nat.mul_one, hne]
    refine m_cond (t := true) (by simp [evalT, FT.get_set, FT.setL, faS_ptr, nilS_ptr, nilS_func, nilS_yield, pickS_bool, ldS_ptr, list_cells, list_ro, partS_none, lenSl_of, lenStr_of, cvInt_of, aminmax_max, aminmax_min, abin_add, abin_sub, abin_mul, abin_eql, abin_neq, abin_lss, abin_leq, abin_gtr, abin_geq, aunary_not, aextract]) (fun _ => ?_) tf
    refine m_seq (m_reg ?_)
    rw [reg9_7]
    refine m_ret ?_
    simp [resM, FT.get_set, FT.setL, faS_ptr, nilS_ptr, nilS_func, nilS_yield, pickS_bool, ldS_ptr, list_cells, list_ro, partS_none, lenSl_of, lenStr_of, cvInt_of, aminmax_max, aminmax_min, abin_add, abin_sub, abin_mul, abin_eql, abin_neq, abin_lss, abin_leq, abin_gtr, abin_geq, aunary_not, aextract, oneOrTuple]
    exact q2 0 S1 D (by omega) hcut (by rw [List.take_zero]; exact G1)
  refine m_wf fun wf2 => m_seq (m_reg ?_)
  rw [reg9_6]
  simp (decide := true) only [FT.get_set, FT.setL, faS_ptr, nilS_ptr, nilS_func, nilS_yield, pickS_bool, ldS_ptr, list_cells, list_ro, partS_none, lenSl_of, lenStr_of, cvInt_of, aminmax_max, aminmax_min, abin_add, abin_sub, abin_mul, abin_eql, abin_neq, abin_lss, abin_leq, abin_gtr, abin_geq, aunary_not, aextract, Option.some.injEq, Prod.mk.injEq, Value.bool.injEq, exists_eq_left', exists_and_left, and_assoc, decide_eq_true_eq, decide_eq_false_iff_not, if_true, if_false, Nat.zero_add, Nat.add_zero, Option.bind_some, true_and, and_true, forall_const, true_implies, Bool.not_eq_true, Bool.false_eq_true, false_implies, ite_self, Nat.mul_one, bne_self_eq_false]
  refine m_cond (t := false) (by simp [evalT, FT.get_set, FT.setL, faS_ptr, nilS_ptr, nilS_func, nilS_yield, pickS_bool, ldS_ptr, list_cells, list_ro, partS_none, lenSl_of, lenStr_of, cvInt_of, aminmax_max, aminmax_min, abin_add, abin_sub, abin_mul, abin_eql, abin_neq, abin_lss, abin_leq, abin_gtr, abin_geq, aunary_not, aextract]) ff (fun _ => m_skip ?_)
  simp only
  have G2 : Goes S d D c0 W S2 D2 [(0, List.replicate 256 0)] := G1.trans (by rw [List.append_nil]; exact g2)
  have hb2 : RB S2 v b := (hb.keep wf f1.2).keepOn fun y hy => (g2.fr y ((hon y hy).old f1)).1
  refine m_seq (m_reg ?_)
  rw [reg9_8]
  simp (decide := true) only [FT.get_set, FT.setL, faS_ptr, nilS_ptr, nilS_func, nilS_yield, pickS_bool, ldS_ptr, list_cells, list_ro, partS_none, lenSl_of, lenStr_of, cvInt_of, aminmax_max, aminmax_min, abin_add, abin_sub, abin_mul, abin_eql, abin_neq, abin_lss, abin_leq, abin_gtr, abin_geq, aunary_not, aextract, Option.some.injEq, Prod.mk.injEq, Value.bool.injEq, exists_eq_left', exists_and_left, and_assoc, decide_eq_true_eq, decide_eq_false_iff_not, if_true, if_false, Nat.zero_add, Nat.add_zero, Option.bind_some, true_and, and_true, forall_const, true_implies, Bool.not_eq_true, Bool.false_eq_true, false_implies, ite_self, Nat.mul_one, ]
  refine callM_wf_post (laid31 hb2 (by omega) fun v6 S6 f6 s6 wf6 => ?_)
  have G6 := G2.trans (Goes.old G2.is G2.hw wf2 f6)
  rw [List.append_nil] at G6
  have hmd : D2.made = D.made := G6.wn.made
  have hws6 := G6.wn.ws
  have hwl1 : ([(0, List.replicate 256 0)] : List (Nat × List UInt8)).length = 1 := rfl
  rw [hwl1] at hws6
  -- the pieces
  refine m_seq (m_seq (m_reg ?_))
  rw [reg9_9]
  simp (decide := true) only [FT.get_set, FT.setL, faS_ptr, nilS_ptr, nilS_func, nilS_yield, pickS_bool, ldS_ptr, list_cells, list_ro, partS_none, lenSl_of, lenStr_of, cvInt_of, aminmax_max, aminmax_min, abin_add, abin_sub, abin_mul, abin_eql, abin_neq, abin_lss, abin_leq, abin_gtr, abin_geq, aunary_not, aextract, Option.some.injEq, Prod.mk.injEq, Value.bool.injEq, exists_eq_left', exists_and_left, and_assoc, decide_eq_true_eq, decide_eq_false_iff_not, if_true, if_false, Nat.zero_add, Nat.add_zero, Option.bind_some, true_and, and_true, forall_const, true_implies, Bool.not_eq_true, Bool.false_eq_true, false_implies, ite_self, Nat.mul_one, ]
  have p0 : (0 : Int) = ((0 : Nat) : Int) := rfl
  refine (place33 (half := 0) G6.is (by omega) ⟨by rw [hmd]; omega, by rw [hmd]; omega⟩ ?_)
  have hpl : placeN D2.made.length 0 = 1 := by unfold placeN; omega
  have hroom : placeN D2.made.length 0 + pieceK (laid b) ≤ D2.made.length := by rw [hpl, hmd]; unfold pieceK; omega
  refine writes32 G6.is G6.hw (RB.own s6) (fun y hy => ?_) (by omega) hroom (by omega) (Int.le_trans G6.wn.halt hhalt) fun r k D8 S8 hk8 g8 hr8 => ?_
  · exact FrD.new G2.is wf2 (SlF.on s6 hy) ((RB.own s6).on_lt wf6 hy)
  have G8 := G6.trans g8
  rw [hmd] at G8
  refine m_wf fun wf8 => m_seq (m_reg ?_)
  rw [reg9_10]
  rcases hr8 with ⟨rfl, rfl⟩ | ⟨hkl, hcut8, rfl⟩
  case inr =>
    simp (decide := true) only [FT.get_set, FT.setL, faS_ptr, nilS_ptr, nilS_func, nilS_yield, pickS_bool, ldS_ptr, list_cells, list_ro, partS_none, lenSl_of, lenStr_of, cvInt_of, aminmax_max, aminmax_min, abin_add, abin_sub, abin_mul, abin_eql, abin_neq, abin_lss, abin_leq, abin_gtr, abin_geq, aunary_not, aextract, Option.some.injEq, Prod.mk.injEq, Value.bool.injEq, exists_eq_left', exists_and_left, and_assoc, decide_eq_true_eq, decide_eq_false_iff_not, if_true, if_false, Nat.zero_add, Nat.add_zero, Option.bind_some, true_and, and_true, forall_const, true_implies, Bool.not_eq_true, Bool.false_eq_true, false_implies, ite_self, Nat.mul_one, hne]
    refine m_cond (t := true) (by simp [evalT, FT.get_set, FT.setL, faS_ptr, nilS_ptr, nilS_func, nilS_yield, pickS_bool, ldS_ptr, list_cells, list_ro, partS_none, lenSl_of, lenStr_of, cvInt_of, aminmax_max, aminmax_min, abin_add, abin_sub, abin_mul, abin_eql, abin_neq, abin_lss, abin_leq, abin_gtr, abin_geq, aunary_not, aextract]) (fun _ => ?_) tf
    refine m_seq (m_reg ?_)
    rw [reg9_11]
    refine m_ret ?_
    simp [resM, FT.get_set, FT.setL, faS_ptr, nilS_ptr, nilS_func, nilS_yield, pickS_bool, ldS_ptr, list_cells, list_ro, partS_none, lenSl_of, lenStr_of, cvInt_of, aminmax_max, aminmax_min, abin_add, abin_sub, abin_mul, abin_eql, abin_neq, abin_lss, abin_leq, abin_gtr, abin_geq, aunary_not, aextract, oneOrTuple]
    refine q2 (k + 1) S8 D8 (by omega) hcut8 ?_
    rw [show (formW D.made.length b).take (k + 1) = [(0, List.replicate 256 0)] ++ (piecesN (laid b) (placeN D.made.length 0)).take k by
      unfold formW snapW
      rw [List.take_succ_cons, take_app_le _ _ (by rw [piecesN_len]; omega)]; rfl]
    exact G8
  have htk : (piecesN (laid b) (placeN D.made.length 0)).take (pieceK (laid b)) = piecesN (laid b) (placeN D.made.length 0) := by
    rw [← piecesN_len (laid b) (placeN D.made.length 0), List.take_length]
  rw [htk] at G8
  simp (decide := true) only [FT.get_set, FT.setL, faS_ptr, nilS_ptr, nilS_func, nilS_yield, pickS_bool, ldS_ptr, list_cells, list_ro, partS_none, lenSl_of, lenStr_of, cvInt_of, aminmax_max, aminmax_min, abin_add, abin_sub, abin_mul, abin_eql, abin_neq, abin_lss, abin_leq, abin_gtr, abin_geq, aunary_not, aextract, Option.some.injEq, Prod.mk.injEq, Value.bool.injEq, exists_eq_left', exists_and_left, and_assoc, decide_eq_true_eq, decide_eq_false_iff_not, if_true, if_false, Nat.zero_add, Nat.add_zero, Option.bind_some, true_and, and_true, forall_const, true_implies, Bool.not_eq_true, Bool.false_eq_true, false_implies, ite_self, Nat.mul_one, bne_self_eq_false]
  refine m_cond (t := false) (by simp [evalT, FT.get_set, FT.setL, faS_ptr, nilS_ptr, nilS_func, nilS_yield, pickS_bool, ldS_ptr, list_cells, list_ro, partS_none, lenSl_of, lenStr_of, cvInt_of, aminmax_max, aminmax_min, abin_add, abin_sub, abin_mul, abin_eql, abin_neq, abin_lss, abin_leq, abin_gtr, abin_geq, aunary_not, aextract]) ff (fun _ => m_skip ?_)
  simp only
  refine m_seq (m_reg ?_)
  rw [reg9_12]
  have hl6 := s6.lenSl
  simp (decide := true) only [FT.get_set, FT.setL, faS_ptr, nilS_ptr, nilS_func, nilS_yield, pickS_bool, ldS_ptr, list_cells, list_ro, partS_none, lenSl_of, lenStr_of, cvInt_of, aminmax_max, aminmax_min, abin_add, abin_sub, abin_mul, abin_eql, abin_neq, abin_lss, abin_leq, abin_gtr, abin_geq, aunary_not, aextract, Option.some.injEq, Prod.mk.injEq, Value.bool.injEq, exists_eq_left', exists_and_left, and_assoc, decide_eq_true_eq, decide_eq_false_iff_not, if_true, if_false, Nat.zero_add, Nat.add_zero, Option.bind_some, true_and, and_true, forall_const, true_implies, Bool.not_eq_true, Bool.false_eq_true, false_implies, ite_self, Nat.mul_one, hl6]
  refine callM_wf_post (head34 0 (laid b).length (by omega) (by omega) fun v10 S10 f10 s10 wf10 => ?_)
  have G10 := G8.trans (Goes.old G8.is G8.hw wf8 f10)
  rw [List.append_nil] at G10
  have hmd8 : D8.made = D.made := G10.wn.made
  have hws8 := G10.wn.ws
  rw [List.length_append, piecesN_len, hwl1] at hws8
  refine writeW G10.is G10.hw (i := 0) (by rw [hmd8]; omega) s10 (headB_len _ _) (by omega) (Int.le_trans G10.wn.halt hhalt) (fun hcut => ?_) (fun hcut D11 S11 g11 => ?_)
  · refine m_ret ?_
    simp [resM, FT.get_set, FT.setL, faS_ptr, nilS_ptr, nilS_func, nilS_yield, pickS_bool, ldS_ptr, list_cells, list_ro, partS_none, lenSl_of, lenStr_of, cvInt_of, aminmax_max, aminmax_min, abin_add, abin_sub, abin_mul, abin_eql, abin_neq, abin_lss, abin_leq, abin_gtr, abin_geq, aunary_not, aextract, oneOrTuple]
    refine q2 (pieceK (laid b) + 1) S10 D8 (by omega) hcut ?_
    rw [show (formW D.made.length b).take (pieceK (laid b) + 1) = [(0, List.replicate 256 0)] ++ (piecesN (laid b) (placeN D.made.length 0)).take (pieceK (laid b)) by
      unfold formW snapW
      rw [List.take_succ_cons, take_app_le _ _ (by rw [piecesN_len]; omega)]; rfl, htk]
    exact G10
  · refine m_ret ?_
    simp [resM, FT.get_set, FT.setL, faS_ptr, nilS_ptr, nilS_func, nilS_yield, pickS_bool, ldS_ptr, list_cells, list_ro, partS_none, lenSl_of, lenStr_of, cvInt_of, aminmax_max, aminmax_min, abin_add, abin_sub, abin_mul, abin_eql, abin_neq, abin_lss, abin_leq, abin_gtr, abin_geq, aunary_not, aextract, oneOrTuple]
    have G11 := G10.trans g11
    rw [List.append_assoc] at G11
    exact q1 S11 D11 G11
end Go.Proofs.Ytmfmbadfgnhonaa
namespace Go.Proofs.Ytmfmbadfgnhonaa
open Go Go.Ag
set_option linter.unusedVariables false
set_option maxRecDepth 100000

theorem ba_list (l : List UInt8) : (⟨l.toArray⟩ : ByteArray).toList = l := by simp [ByteArray.toList_eq]

/-- Bytes: do two slices hold the same? -/
theorem bytes24' {S : MS} {v w : Value} {a b : List UInt8} (h : RB S v a) (h' : RB S w b) {Q : Value → MS → Prop} (hq : Q (.bool (a == b)) S) : CallM Try.prog O 24 [v, w] S Q := by
  refine callM_body (fnIs is24 body24 res24) (O_none (by decide)) (by simp) ?_
  refine m_seq (m_reg ?_)
  rw [reg24_0]
  refine m_seq (m_reg ?_)
  rw [reg24_1]
  simp (decide := true) only [FT.get_set, FT.setL, faS_ptr, nilS_ptr, nilS_func, nilS_yield, pickS_bool, ldS_ptr, list_cells, list_ro, partS_none, lenSl_of, lenStr_of, cvInt_of, aminmax_max, aminmax_min, abin_add, abin_sub, abin_mul, abin_eql, abin_neq, abin_lss, abin_leq, abin_gtr, abin_geq, aunary_not, aextract, Option.some.injEq, Prod.mk.injEq, Value.bool.injEq, exists_eq_left', exists_and_left, and_assoc, decide_eq_true_eq, decide_eq_false_iff_not, if_true, if_false, Nat.zero_add, Nat.add_zero, Option.bind_some, true_and, and_true, forall_const, true_implies, Bool.not_eq_true, Bool.false_eq_true, false_implies, ite_self, Nat.mul_one, h.str, h'.str, abin_str_eql, ba_list]
  refine m_ret ?_
  simp [resM, FT.get_set, FT.setL, faS_ptr, nilS_ptr, nilS_func, nilS_yield, pickS_bool, ldS_ptr, list_cells, list_ro, partS_none, lenSl_of, lenStr_of, cvInt_of, aminmax_max, aminmax_min, abin_add, abin_sub, abin_mul, abin_eql, abin_neq, abin_lss, abin_leq, abin_gtr, abin_geq, aunary_not, aextract, oneOrTuple]
  exact hq

def RI13 (S : MS) (rs : List (List UInt8)) (rv : Value) (m : Nat) (T : FT) (S' : MS) : Prop := ∃ (i : Nat) (v : Value) (rl : List Sv), i + m = rs.length ∧ Old S S' ∧ SlF svF 1 S' S.n v rl ∧ RBs S' rl (rs.take i) ∧ (∀ x ∈ rl, ∀ y, On x.v y → Av v y) ∧ T.get 3 = v ∧ T.get 9 = rv ∧ T.get 10 = .int .i64 rs.length ∧ T.get 11 = .int .i64 i

/-- Records: copies of all -/
theorem records13 {S : MS} {j d B half end' : Nat} {base tail : List UInt8} {rs : List (List UInt8)} {dead : Bool} (h : IsJ S j d B half end' base rs tail dead) (hl : wsum rs ≤ 400000) {Q : Value → MS → Prop} (hq : ∀ v rl S', Old S S' → SlF svF 1 S' S.n v rl → RBs S' rl rs → Q v S') : CallM Try.prog O 13 [.pointer (some ⟨j, 0, none⟩)] S Q := by
  obtain ⟨bv, rv, tv, rl0, hj, hb, hr, hrs, ht, hav⟩ := h.ex
  refine callM_wf fun wf => ?_
  refine callM_body (fnIs is13 body13 res13) (O_none (by decide)) (by simp) ?_
  refine m_seq (m_reg ?_)
  rw [reg13_0]
  refine m_seq (m_reg ?_)
  rw [reg13_1]
  refine m_seq (m_seq (m_reg ?_))
  rw [reg13_2]
  have hlen := hr.lenSl
  rw [hrs.1] at hlen
  have hwl := wsum_len rs
  simp (decide := true) only [FT.get_set, FT.setL, faS_ptr, nilS_ptr, nilS_func, nilS_yield, pickS_bool, ldS_ptr, list_cells, list_ro, partS_none, lenSl_of, lenStr_of, cvInt_of, aminmax_max, aminmax_min, abin_add, abin_sub, abin_mul, abin_eql, abin_neq, abin_lss, abin_leq, abin_gtr, abin_geq, aunary_not, aextract, Option.some.injEq, Prod.mk.injEq, Value.bool.injEq, exists_eq_left', exists_and_left, and_assoc, decide_eq_true_eq, decide_eq_false_iff_not, if_true, if_false, Nat.zero_add, Nat.add_zero, Option.bind_some, true_and, and_true, forall_const, true_implies, Bool.not_eq_true, Bool.false_eq_true, false_implies, ite_self, Nat.mul_one, list_of hj, jl4, hlen]
  unfold blk13_0
  refine m_block (m_loop (fun m T S' => RI13 S rs rv m T S') rs.length ⟨0, .slice none 0 0, [], by omega, Old.refl S, .non, ⟨rfl, fun i x r hx => by cases hx⟩, (fun x hx => by cases hx), by simp [FT.get_set, FT.setL, faS_ptr, nilS_ptr, nilS_func, nilS_yield, pickS_bool, ldS_ptr, list_cells, list_ro, partS_none, lenSl_of, lenStr_of, cvInt_of, aminmax_max, aminmax_min, abin_add, abin_sub, abin_mul, abin_eql, abin_neq, abin_lss, abin_leq, abin_gtr, abin_geq, aunary_not, aextract], by simp [FT.get_set, FT.setL, faS_ptr, nilS_ptr, nilS_func, nilS_yield, pickS_bool, ldS_ptr, list_cells, list_ro, partS_none, lenSl_of, lenStr_of, cvInt_of, aminmax_max, aminmax_min, abin_add, abin_sub, abin_mul, abin_eql, abin_neq, abin_lss, abin_leq, abin_gtr, abin_geq, aunary_not, aextract], by simp [FT.get_set, FT.setL, faS_ptr, nilS_ptr, nilS_func, nilS_yield, pickS_bool, ldS_ptr, list_cells, list_ro, partS_none, lenSl_of, lenStr_of, cvInt_of, aminmax_max, aminmax_min, abin_add, abin_sub, abin_mul, abin_eql, abin_neq, abin_lss, abin_leq, abin_gtr, abin_geq, aunary_not, aextract], by simp [FT.get_set, FT.setL, faS_ptr, nilS_ptr, nilS_func, nilS_yield, pickS_bool, ldS_ptr, list_cells, list_ro, partS_none, lenSl_of, lenStr_of, cvInt_of, aminmax_max, aminmax_min, abin_add, abin_sub, abin_mul, abin_eql, abin_neq, abin_lss, abin_leq, abin_gtr, abin_geq, aunary_not, aextract]⟩ ?_)
  rintro m T S1 ⟨i, v, rl, hi, f1, hv, hrl, havs, t3, t9, t10, t11⟩
  refine m_wf fun wf1 => m_seq (m_reg ?_)
  rw [reg13_3]
  simp (decide := true) only [FT.get_set, FT.setL, faS_ptr, nilS_ptr, nilS_func, nilS_yield, pickS_bool, ldS_ptr, list_cells, list_ro, partS_none, lenSl_of, lenStr_of, cvInt_of, aminmax_max, aminmax_min, abin_add, abin_sub, abin_mul, abin_eql, abin_neq, abin_lss, abin_leq, abin_gtr, abin_geq, aunary_not, aextract, Option.some.injEq, Prod.mk.injEq, Value.bool.injEq, exists_eq_left', exists_and_left, and_assoc, decide_eq_true_eq, decide_eq_false_iff_not, if_true, if_false, Nat.zero_add, Nat.add_zero, Option.bind_some, true_and, and_true, forall_const, true_implies, Bool.not_eq_true, Bool.false_eq_true, false_implies, ite_self, Nat.mul_one, t10, t11]
  refine m_seq (m_cond (t := decide ((i : Int) < rs.length)) (by simp [evalT, FT.get_set, FT.setL, faS_ptr, nilS_ptr, nilS_func, nilS_yield, pickS_bool, ldS_ptr, list_cells, list_ro, partS_none, lenSl_of, lenStr_of, cvInt_of, aminmax_max, aminmax_min, abin_add, abin_sub, abin_mul, abin_eql, abin_neq, abin_lss, abin_leq, abin_gtr, abin_geq, aunary_not, aextract]) (fun hlt => m_skip ?_) (fun hlt => m_exit ?_))
  · have hlt : i < rs.length := by have := of_decide_eq_true hlt; omega
    simp only
    obtain ⟨r, hri⟩ : ∃ r, rs[i]? = some r := ⟨_, List.getElem?_eq_getElem hlt⟩
    obtain ⟨x, hxi⟩ : ∃ x, rl0[i]? = some x := ⟨_, List.getElem?_eq_getElem (by rw [hrs.1]; exact hlt)⟩
    have hrb := (hrs.2 i x r hxi hri).keep wf f1.2
    have hr1 : SlF svF 1 S1 B rv rl0 := hr.keep fun y k hk => f1.2 y (wf _ _ hk)
    obtain ⟨p, q1, q2⟩ := SlF.at1 hr1 hxi
    have htk : rs.take (i + 1) = rs.take i ++ [r] := by rw [List.take_add_one, hri]; rfl
    have hrlen : r.length ≤ 400000 := by
      have h1 := wsum_take_le rs (i + 1)
      rw [htk, wsum_append] at h1
      simp only [wsum] at h1
      omega
    unfold blk13_1
    refine m_seq (m_block (m_seq (m_reg ?_)))
    rw [reg13_4]
    simp (decide := true) only [FT.get_set, FT.setL, faS_ptr, nilS_ptr, nilS_func, nilS_yield, pickS_bool, ldS_ptr, list_cells, list_ro, partS_none, lenSl_of, lenStr_of, cvInt_of, aminmax_max, aminmax_min, abin_add, abin_sub, abin_mul, abin_eql, abin_neq, abin_lss, abin_leq, abin_gtr, abin_geq, aunary_not, aextract, Option.some.injEq, Prod.mk.injEq, Value.bool.injEq, exists_eq_left', exists_and_left, and_assoc, decide_eq_true_eq, decide_eq_false_iff_not, if_true, if_false, Nat.zero_add, Nat.add_zero, Option.bind_some, true_and, and_true, forall_const, true_implies, Bool.not_eq_true, Bool.false_eq_true, false_implies, ite_self, Nat.mul_one, t9, t11, q1, q2]
    refine m_reg ?_
    rw [reg13_5]
    simp (decide := true) only [FT.get_set, FT.setL, faS_ptr, nilS_ptr, nilS_func, nilS_yield, pickS_bool, ldS_ptr, list_cells, list_ro, partS_none, lenSl_of, lenStr_of, cvInt_of, aminmax_max, aminmax_min, abin_add, abin_sub, abin_mul, abin_eql, abin_neq, abin_lss, abin_leq, abin_gtr, abin_geq, aunary_not, aextract, Option.some.injEq, Prod.mk.injEq, Value.bool.injEq, exists_eq_left', exists_and_left, and_assoc, decide_eq_true_eq, decide_eq_false_iff_not, if_true, if_false, Nat.zero_add, Nat.add_zero, Option.bind_some, true_and, and_true, forall_const, true_implies, Bool.not_eq_true, Bool.false_eq_true, false_implies, ite_self, Nat.mul_one, t3]
    refine callM_wf_post (clone40 hrb hrlen fun v5 S5 f5 s5 wf5 => ?_)
    obtain ⟨s, rfl⟩ := (RB.own s5).sv
    have hbs : bsS S5 1 1 [.slice none 0 0] [(0, s.v)] = some (.slice (some ⟨S5.n, 0, none⟩) 1 1, S5.fresh [s.v] 1) := bsS_one S5 1 _ s.v rfl rfl
    have wf6 := wf_fresh' wf5 [s.v] 1
    have f6 := old_fresh S5 [s.v] 1
    have hnew : firstCellsM (S5.fresh [s.v] 1) 1 [s].length (.slice (some ⟨S5.n, 0, none⟩) 1 1) = some ([s].flatMap svF) :=
      (first_of (sz := 1) (n := 1) (len := 1) (cap := 1) (off := 0) (list_of (fresh_at S5 [s.v] 1)) (Nat.le_refl _) (by decide) (by simp)).trans rfl
    have hv6 : SlF svF 1 (S5.fresh [s.v] 1) S.n v rl := hv.keep fun y k hk => by
      have hy := wf1 _ _ hk
      rw [f6.2 y (by have := f5.1; omega), f5.2 y hy]
    have hrll : rl.length = i := by rw [hrl.1, List.length_take]; omega
    have n1 := f1.1
    have n5 := f5.1
    obtain ⟨v', S7, a1, a2, a3, a4, a5⟩ := hv6.app2 (bytes := 24) (z := [.slice none 0 0]) sv_len sv_one (by decide) (x := .slice (some ⟨S5.n, 0, none⟩) 1 1) (new := [s]) wf6 (by simp only [fresh_n]; omega) rfl hnew (by simp; omega) (by simp; omega)
    have hn6 : (S5.fresh [s.v] 1).n = S5.n + 1 := rfl
    rw [hn6] at a3 a4 a5
    simp (decide := true) only [FT.get_set, FT.setL, faS_ptr, nilS_ptr, nilS_func, nilS_yield, pickS_bool, ldS_ptr, list_cells, list_ro, partS_none, lenSl_of, lenStr_of, cvInt_of, aminmax_max, aminmax_min, abin_add, abin_sub, abin_mul, abin_eql, abin_neq, abin_lss, abin_leq, abin_gtr, abin_geq, aunary_not, aextract, Option.some.injEq, Prod.mk.injEq, Value.bool.injEq, exists_eq_left', exists_and_left, and_assoc, decide_eq_true_eq, decide_eq_false_iff_not, if_true, if_false, Nat.zero_add, Nat.add_zero, Option.bind_some, true_and, and_true, forall_const, true_implies, Bool.not_eq_true, Bool.false_eq_true, false_implies, ite_self, Nat.mul_one, hbs, a1]
    refine m_reg ?_
    rw [reg13_6]
    have hwi : IntKind.i64.wrap ((i : Int) + 1) = ((i + 1 : Nat) : Int) := by rw [wrap_i64 (by omega) (by omega)]; rfl
    simp (decide := true) only [FT.get_set, FT.setL, faS_ptr, nilS_ptr, nilS_func, nilS_yield, pickS_bool, ldS_ptr, list_cells, list_ro, partS_none, lenSl_of, lenStr_of, cvInt_of, aminmax_max, aminmax_min, abin_add, abin_sub, abin_mul, abin_eql, abin_neq, abin_lss, abin_leq, abin_gtr, abin_geq, aunary_not, aextract, Option.some.injEq, Prod.mk.injEq, Value.bool.injEq, exists_eq_left', exists_and_left, and_assoc, decide_eq_true_eq, decide_eq_false_iff_not, if_true, if_false, Nat.zero_add, Nat.add_zero, Option.bind_some, true_and, and_true, forall_const, true_implies, Bool.not_eq_true, Bool.false_eq_true, false_implies, ite_self, Nat.mul_one, t11, hwi]
    have avn : ∀ y, S1.n ≤ y → Av v y := fun y hy => SlF.avN hv wf1 hy
    have hkeep1 : ∀ y, y < S1.n → Av v y → S7.m y = S1.m y := fun y hy hav => by rw [a4 y (by omega) hav, f6.2 y (by omega), f5.2 y hy]
    have ons : ∀ y, On s.v y → S1.n ≤ y ∧ y < S5.n := fun y hy => ⟨SlF.on s5 hy, (RB.own s5).on_lt wf5 hy⟩
    refine ⟨m - 1, by omega, i + 1, v', rl ++ [s], by omega, ⟨by omega, fun y hy => by rw [hkeep1 y (by omega) (SlF.av hv hy), f1.2 y hy]⟩, a2, ⟨?_, fun k x' r' hx' hr' => ?_⟩, fun x' hx' y hy => ?_, by simp [FT.get_set, FT.setL, faS_ptr, nilS_ptr, nilS_func, nilS_yield, pickS_bool, ldS_ptr, list_cells, list_ro, partS_none, lenSl_of, lenStr_of, cvInt_of, aminmax_max, aminmax_min, abin_add, abin_sub, abin_mul, abin_eql, abin_neq, abin_lss, abin_leq, abin_gtr, abin_geq, aunary_not, aextract], by simp [FT.get_set, FT.setL, faS_ptr, nilS_ptr, nilS_func, nilS_yield, pickS_bool, ldS_ptr, list_cells, list_ro, partS_none, lenSl_of, lenStr_of, cvInt_of, aminmax_max, aminmax_min, abin_add, abin_sub, abin_mul, abin_eql, abin_neq, abin_lss, abin_leq, abin_gtr, abin_geq, aunary_not, aextract, t9], by simp [FT.get_set, FT.setL, faS_ptr, nilS_ptr, nilS_func, nilS_yield, pickS_bool, ldS_ptr, list_cells, list_ro, partS_none, lenSl_of, lenStr_of, cvInt_of, aminmax_max, aminmax_min, abin_add, abin_sub, abin_mul, abin_eql, abin_neq, abin_lss, abin_leq, abin_gtr, abin_geq, aunary_not, aextract, t10], by simp [FT.get_set, FT.setL, faS_ptr, nilS_ptr, nilS_func, nilS_yield, pickS_bool, ldS_ptr, list_cells, list_ro, partS_none, lenSl_of, lenStr_of, cvInt_of, aminmax_max, aminmax_min, abin_add, abin_sub, abin_mul, abin_eql, abin_neq, abin_lss, abin_leq, abin_gtr, abin_geq, aunary_not, aextract]⟩
    · rw [htk, List.length_append, List.length_append, hrl.1]; rfl
    · rw [htk] at hr'
      by_cases hk : k < rl.length
      · rw [List.getElem?_append_left hk] at hx'
        rw [List.getElem?_append_left (by rw [← hrl.1]; exact hk)] at hr'
        have hrb' := hrl.2 k x' r' hx' hr'
        exact hrb'.keepOn fun y hy => hkeep1 y (hrb'.on_lt wf1 hy) (havs x' (List.mem_of_getElem? hx') y hy)
      · rw [List.getElem?_append_right (by omega)] at hx'
        rw [List.getElem?_append_right (by rw [← hrl.1]; omega), ← hrl.1] at hr'
        obtain ⟨e1, _⟩ := List.getElem?_eq_some_iff.1 hx'
        have : k - rl.length = 0 := by simp at e1; omega
        rw [this] at hx' hr'
        cases hx'; cases hr'
        refine (RB.own s5).keepOn fun y hy => ?_
        obtain ⟨k1, k2⟩ := ons y hy
        rw [a4 y (by omega) (avn y k1), f6.2 y k2]
    · rcases List.mem_append.1 hx' with hx' | hx'
      · have h1 := havs x' hx' y hy
        obtain ⟨k, hk, hk2⟩ := List.getElem_of_mem hx'
        have hxk : rl[k]? = some x' := by rw [List.getElem?_eq_getElem hk, hk2]
        obtain ⟨r', hr'⟩ : ∃ r', (rs.take i)[k]? = some r' := ⟨_, List.getElem?_eq_getElem (by rw [← hrl.1]; exact hk)⟩
        have := (hrl.2 k x' r' hxk hr').on_lt wf1 hy
        exact a5 y (by omega) h1
      · have : x' = s := by simpa using hx'
        subst this
        obtain ⟨k1, k2⟩ := ons y hy
        exact a5 y (by omega) (avn y k1)
  · have : i = rs.length := by have := of_decide_eq_false hlt; omega
    subst this
    rw [List.take_length] at hrl
    simp only [if_true]
    refine m_seq (m_reg ?_)
    rw [reg13_7]
    refine m_ret ?_
    simp [resM, FT.get_set, FT.setL, faS_ptr, nilS_ptr, nilS_func, nilS_yield, pickS_bool, ldS_ptr, list_cells, list_ro, partS_none, lenSl_of, lenStr_of, cvInt_of, aminmax_max, aminmax_min, abin_add, abin_sub, abin_mul, abin_eql, abin_neq, abin_lss, abin_leq, abin_gtr, abin_geq, aunary_not, aextract, oneOrTuple, t3]
    exact hq v rl S1 f1 hv hrl
end Go.Proofs.Ytmfmbadfgnhonaa

