/-
  The walk through the journal's code: what its functions do to memory, part MoJ12. Nothing is asked.
-/
import Derived.Test.YtmfmbadfgnhonaaMoJ11
set_option linter.all false
namespace Go.Proofs.Ytmfmbadfgnhonaa
open Go Go.Ag
set_option linter.unusedVariables false
set_option maxRecDepth 100000

/-- the writes of an Append -/
def appW (n half : Nat) (base : List UInt8) (rs : List (List UInt8)) (b : List UInt8) : List (Nat × List UInt8) := piecesN (lastB base rs b) (placeN n half + liveN base rs / 256) ++ [(0, headB half (liveN base (rs ++ [b])))]
theorem take_app_le {α : Type} (a b : List α) {k : Nat} (h : k ≤ a.length) : (a ++ b).take k = a.take k := by rw [List.take_append_of_le_length h]

theorem append11 {S : MS} {d j : Nat} {D : DK} {c0 : Nat → List UInt8} {W : List (Nat × List UInt8)} {rv v : Value} {half : Nat} {base b : List UInt8} {rs : List (List UInt8)} (h : IsD S d D) (hw : HW S D c0 W) (hj : JJ S d D j rv half (liveN base rs) base rs false) (hn : 64 ≤ D.made.length ∧ D.made.length ≤ 2000) (hh : half ≤ 1) (hlive : liveN base rs ≤ 32 * D.made.length) (hb : RB S v b) (hon : ∀ y, On v y → Fr S d D j rv y) (hbl : b.length ≤ 65536) (hws : D.ws.length ≤ 900000) (hhalt : D.halt ≤ 9223372036854775807) {Q : Value → MS → Prop}
    (q0 : 32 * D.made.length < liveN base (rs ++ [b]) → Q (.int .i64 192) S)
    (q1 : liveN base (rs ++ [b]) ≤ 32 * D.made.length → ∀ S' D' rv', JGo S d D c0 W j rv S' D' rv' (appW D.made.length half base rs b) → JJ S' d D' j rv' half (liveN base (rs ++ [b])) base (rs ++ [b]) false → Q (.int .i64 0) S')
    (q2 : liveN base (rs ++ [b]) ≤ 32 * D.made.length → ∀ k S' D', k < (appW D.made.length half base rs b).length → D'.cut = true → JGo S d D c0 W j rv S' D' rv ((appW D.made.length half base rs b).take k) → JJ S' d D' j rv half (liveN base rs) base rs true → Q (.int .i64 12) S') :
    CallM Try.prog O 11 [.pointer (some ⟨j, 0, none⟩), v] S Q := by
  refine callM_wf fun wf => ?_
  obtain ⟨bv, tv, rl, h1, h2, h3, h4, h5, h6⟩ := hj.ex
  refine callM_body (fnIs is11 body11 res11) (O_none (by decide)) (by simp) ?_
  refine m_seq (m_reg ?_)
  rw [reg11_0]
  refine m_seq (m_block (m_seq (m_reg ?_)))
  rw [reg11_1]
  simp (decide := true) only [FT.get_set, FT.setL, faS_ptr, nilS_ptr, nilS_func, nilS_yield, pickS_bool, ldS_ptr, list_cells, list_ro, partS_none, lenSl_of, lenStr_of, cvInt_of, aminmax_max, aminmax_min, abin_add, abin_sub, abin_mul, abin_eql, abin_neq, abin_lss, abin_leq, abin_gtr, abin_geq, aunary_not, aextract, Option.some.injEq, Prod.mk.injEq, Value.bool.injEq, exists_eq_left', exists_and_left, and_assoc, decide_eq_true_eq, decide_eq_false_iff_not, if_true, if_false, Nat.zero_add, Nat.add_zero, Option.bind_some, true_and, and_true, forall_const, true_implies, Bool.not_eq_true, Bool.false_eq_true, false_implies, ite_self, Nat.mul_one, list_of h1, jl6]
  refine m_cond (t := false) (by simp [evalT, FT.get_set, FT.setL, faS_ptr, nilS_ptr, nilS_func, nilS_yield, pickS_bool, ldS_ptr, list_cells, list_ro, partS_none, lenSl_of, lenStr_of, cvInt_of, aminmax_max, aminmax_min, abin_add, abin_sub, abin_mul, abin_eql, abin_neq, abin_lss, abin_leq, abin_gtr, abin_geq, aunary_not, aextract]) ff (fun _ => ?_)
  refine m_seq (m_reg ?_)
  rw [reg11_3]
  have hd : ¬ ((b.length : Int) > 65536) := by omega
  simp (decide := true) only [FT.get_set, FT.setL, faS_ptr, nilS_ptr, nilS_func, nilS_yield, pickS_bool, ldS_ptr, list_cells, list_ro, partS_none, lenSl_of, lenStr_of, cvInt_of, aminmax_max, aminmax_min, abin_add, abin_sub, abin_mul, abin_eql, abin_neq, abin_lss, abin_leq, abin_gtr, abin_geq, aunary_not, aextract, Option.some.injEq, Prod.mk.injEq, Value.bool.injEq, exists_eq_left', exists_and_left, and_assoc, decide_eq_true_eq, decide_eq_false_iff_not, if_true, if_false, Nat.zero_add, Nat.add_zero, Option.bind_some, true_and, and_true, forall_const, true_implies, Bool.not_eq_true, Bool.false_eq_true, false_implies, ite_self, Nat.mul_one, hb.len, hd]
  refine m_cond (t := false) (by simp [evalT, FT.get_set, FT.setL, faS_ptr, nilS_ptr, nilS_func, nilS_yield, pickS_bool, ldS_ptr, list_cells, list_ro, partS_none, lenSl_of, lenStr_of, cvInt_of, aminmax_max, aminmax_min, abin_add, abin_sub, abin_mul, abin_eql, abin_neq, abin_lss, abin_leq, abin_gtr, abin_geq, aunary_not, aextract, hd]) ff (fun _ => ?_)
  refine m_seq (m_reg ?_)
  rw [reg11_5]
  have hls := liveN_snoc base rs b
  have hll := lastB_len base rs b
  simp (decide := true) only [FT.get_set, FT.setL, faS_ptr, nilS_ptr, nilS_func, nilS_yield, pickS_bool, ldS_ptr, list_cells, list_ro, partS_none, lenSl_of, lenStr_of, cvInt_of, aminmax_max, aminmax_min, abin_add, abin_sub, abin_mul, abin_eql, abin_neq, abin_lss, abin_leq, abin_gtr, abin_geq, aunary_not, aextract, Option.some.injEq, Prod.mk.injEq, Value.bool.injEq, exists_eq_left', exists_and_left, and_assoc, decide_eq_true_eq, decide_eq_false_iff_not, if_true, if_false, Nat.zero_add, Nat.add_zero, Option.bind_some, true_and, and_true, forall_const, true_implies, Bool.not_eq_true, Bool.false_eq_true, false_implies, ite_self, Nat.mul_one, ]
  refine weight21 hb (by omega) (capacity14 h1 h (by omega) (live27 hj.isJ (by omega) ?_))
  have w1 : IntKind.i64.wrap (((32 * D.made.length : Nat) : Int) - ((liveN base rs : Nat) : Int)) = ((32 * D.made.length - liveN base rs : Nat) : Int) := by rw [wrap_i64 (by omega) (by omega)]; omega
  simp (decide := true) only [FT.get_set, FT.setL, faS_ptr, nilS_ptr, nilS_func, nilS_yield, pickS_bool, ldS_ptr, list_cells, list_ro, partS_none, lenSl_of, lenStr_of, cvInt_of, aminmax_max, aminmax_min, abin_add, abin_sub, abin_mul, abin_eql, abin_neq, abin_lss, abin_leq, abin_gtr, abin_geq, aunary_not, aextract, Option.some.injEq, Prod.mk.injEq, Value.bool.injEq, exists_eq_left', exists_and_left, and_assoc, decide_eq_true_eq, decide_eq_false_iff_not, if_true, if_false, Nat.zero_add, Nat.add_zero, Option.bind_some, true_and, and_true, forall_const, true_implies, Bool.not_eq_true, Bool.false_eq_true, false_implies, ite_self, Nat.mul_one, w1]
  refine m_cond (t := decide (((b.length + 8 : Nat) : Int) > ((32 * D.made.length - liveN base rs : Nat) : Int))) (by simp [evalT, FT.get_set, FT.setL, faS_ptr, nilS_ptr, nilS_func, nilS_yield, pickS_bool, ldS_ptr, list_cells, list_ro, partS_none, lenSl_of, lenStr_of, cvInt_of, aminmax_max, aminmax_min, abin_add, abin_sub, abin_mul, abin_eql, abin_neq, abin_lss, abin_leq, abin_gtr, abin_geq, aunary_not, aextract]) (fun hf => ?_) (fun hf => m_skip ?_)
  · have hf := of_decide_eq_true hf
    refine m_seq (m_reg ?_)
    rw [reg11_6]
    refine m_ret ?_
    simp [resM, FT.get_set, FT.setL, faS_ptr, nilS_ptr, nilS_func, nilS_yield, pickS_bool, ldS_ptr, list_cells, list_ro, partS_none, lenSl_of, lenStr_of, cvInt_of, aminmax_max, aminmax_min, abin_add, abin_sub, abin_mul, abin_eql, abin_neq, abin_lss, abin_leq, abin_gtr, abin_geq, aunary_not, aextract, oneOrTuple]
    exact q0 (by omega)
  have hf : liveN base (rs ++ [b]) ≤ 32 * D.made.length := by have := of_decide_eq_false hf; omega
  have q1 := q1 hf
  have q2 := q2 hf
  simp only
  -- the bytes
  refine m_seq (m_reg ?_)
  rw [reg11_7]
  have htl : ((allB base rs).drop (liveN base rs / 256 * 256)).length ≤ 255 := by rw [List.length_drop, allB_len]; omega
  simp (decide := true) only [FT.get_set, FT.setL, faS_ptr, nilS_ptr, nilS_func, nilS_yield, pickS_bool, ldS_ptr, list_cells, list_ro, partS_none, lenSl_of, lenStr_of, cvInt_of, aminmax_max, aminmax_min, abin_add, abin_sub, abin_mul, abin_eql, abin_neq, abin_lss, abin_leq, abin_gtr, abin_geq, aunary_not, aextract, Option.some.injEq, Prod.mk.injEq, Value.bool.injEq, exists_eq_left', exists_and_left, and_assoc, decide_eq_true_eq, decide_eq_false_iff_not, if_true, if_false, Nat.zero_add, Nat.add_zero, Option.bind_some, true_and, and_true, forall_const, true_implies, Bool.not_eq_true, Bool.false_eq_true, false_implies, ite_self, Nat.mul_one, list_of h1, jl5]
  refine callM_wf_post (clone40 h5 (by omega) fun v4 S4 f4 s4 wf4 => ?_)
  have hb4 := hb.keep wf f4.2
  refine callM_wf_post (laid31 hb4 (by omega) fun v6 S6 f6 s6 wf6 => ?_)
  have s46 : SlF bF 1 S6 S.n v4 ((allB base rs).drop (liveN base rs / 256 * 256)) := s4.keep fun y k hk => f6.2 y (wf4 _ _ hk)
  have hlb : (laid b).length = b.length + 8 := laid_len b
  obtain ⟨v7, S7, a1, a2, a3, a4, a5⟩ := s46.app2 (bytes := 1) (z := [.int .u8 0]) bF_len bF_one (by decide) (x := v6) (new := laid b) wf6 (by have := f4.1; have := f6.1; omega) (RB.own s6).lenA (RB.own s6).flat (by omega) (by omega)
  have f7 : Old S S7 := ⟨by have := f4.1; have := f6.1; omega, fun y hy => by
    have := f4.1; have := f6.1
    rw [a4 y (by omega) (SlF.av s46 hy), f6.2 y (by omega), f4.2 y hy]⟩
  simp (decide := true) only [FT.get_set, FT.setL, faS_ptr, nilS_ptr, nilS_func, nilS_yield, pickS_bool, ldS_ptr, list_cells, list_ro, partS_none, lenSl_of, lenStr_of, cvInt_of, aminmax_max, aminmax_min, abin_add, abin_sub, abin_mul, abin_eql, abin_neq, abin_lss, abin_leq, abin_gtr, abin_geq, aunary_not, aextract, Option.some.injEq, Prod.mk.injEq, Value.bool.injEq, exists_eq_left', exists_and_left, and_assoc, decide_eq_true_eq, decide_eq_false_iff_not, if_true, if_false, Nat.zero_add, Nat.add_zero, Option.bind_some, true_and, and_true, forall_const, true_implies, Bool.not_eq_true, Bool.false_eq_true, false_implies, ite_self, Nat.mul_one, a1]
  have hlast : SlF bF 1 S7 S.n v7 (lastB base rs b) := a2
  refine m_wf fun wf7 => m_seq (m_seq (m_draw ?_))
  rw [reg11_8]
  have hj7 : S7.m j = some (.cells (jouL d half (liveN base rs : Nat) bv rv tv false) 0) := by rw [f7.2 j (wf _ _ h1)]; exact h1
  have hI7 := h.old' wf f7
  have hw7 := hw.old wf f7
  have z1 : ((liveN base rs : Nat) : Int).tdiv 256 = ((liveN base rs / 256 : Nat) : Int) := by rw [Int.tdiv_eq_ediv_of_nonneg (by omega)]; rfl
  have z2 : IntKind.i64.wrap ((liveN base rs / 256 : Nat) : Int) = ((liveN base rs / 256 : Nat) : Int) := wrap_i64 (by omega) (by omega)
  have q3 : abin Try.prog .quo 3 (.tmp 51) (.const (.int .i64 256)) (.int .i64 ((liveN base rs : Nat) : Int)) (.int .i64 256) = some (.int .i64 ((liveN base rs / 256 : Nat) : Int)) := by rw [abin_quo _ _ _ _ _ _ _ (by decide), z1, z2]
  have hmul : half * ((D.made.length - 1) / 2) ≤ 1 * ((D.made.length - 1) / 2) := Nat.mul_le_mul_right _ hh
  have hpl : placeN D.made.length half ≤ 1 + (D.made.length - 1) / 2 := by unfold placeN; omega
  have z3 : IntKind.i64.wrap (((placeN D.made.length half : Nat) : Int) + ((liveN base rs / 256 : Nat) : Int)) = ((placeN D.made.length half + liveN base rs / 256 : Nat) : Int) := by rw [wrap_i64 (by omega) (by omega)]; rfl
  have hpk : pieceK (lastB base rs b) = (lastB base rs b).length / 256 + (if (lastB base rs b).length % 256 = 0 then 0 else 1) := by unfold pieceK; split <;> omega
  have hpk2 : pieceK (lastB base rs b) ≤ 260 := by unfold pieceK; omega
  have hroom : placeN D.made.length half + liveN base rs / 256 + pieceK (lastB base rs b) ≤ D.made.length := by unfold pieceK; omega
  simp (decide := true) only [FT.get_set, FT.setL, faS_ptr, nilS_ptr, nilS_func, nilS_yield, pickS_bool, ldS_ptr, list_cells, list_ro, partS_none, lenSl_of, lenStr_of, cvInt_of, aminmax_max, aminmax_min, abin_add, abin_sub, abin_mul, abin_eql, abin_neq, abin_lss, abin_leq, abin_gtr, abin_geq, aunary_not, aextract, Option.some.injEq, Prod.mk.injEq, Value.bool.injEq, exists_eq_left', exists_and_left, and_assoc, decide_eq_true_eq, decide_eq_false_iff_not, if_true, if_false, Nat.zero_add, Nat.add_zero, Option.bind_some, true_and, and_true, forall_const, true_implies, Bool.not_eq_true, Bool.false_eq_true, false_implies, ite_self, Nat.mul_one, list_of hj7, jl0, jl1, jl2]
  refine place33 hI7 hh ⟨by omega, by omega⟩ ?_
  simp (decide := true) only [FT.get_set, FT.setL, faS_ptr, nilS_ptr, nilS_func, nilS_yield, pickS_bool, ldS_ptr, list_cells, list_ro, partS_none, lenSl_of, lenStr_of, cvInt_of, aminmax_max, aminmax_min, abin_add, abin_sub, abin_mul, abin_eql, abin_neq, abin_lss, abin_leq, abin_gtr, abin_geq, aunary_not, aextract, Option.some.injEq, Prod.mk.injEq, Value.bool.injEq, exists_eq_left', exists_and_left, and_assoc, decide_eq_true_eq, decide_eq_false_iff_not, if_true, if_false, Nat.zero_add, Nat.add_zero, Option.bind_some, true_and, and_true, forall_const, true_implies, Bool.not_eq_true, Bool.false_eq_true, false_implies, ite_self, Nat.mul_one, list_of hj7, jl0, jl1, jl2, veq_ptr, veq_int, q3, z3]
  refine writes32 hI7 hw7 (RB.own hlast) (fun y hy => ?_) (by omega) hroom (by omega) hhalt fun r k D8 S8 hk8 g8 hr8 => ?_
  · have k1 := SlF.on hlast hy
    have k2 := (RB.own hlast).on_lt wf7 hy
    exact FrD.new h wf k1 k2
  have G7 : JGo S d D c0 W j rv S7 D rv [] := (JGo.refl h hw).old wf f7
  have G8 : JGo S d D c0 W j rv S8 D8 rv _ := G7.goes (by rw [List.append_nil]; exact g8)
  rw [List.nil_append] at G8
  have J8 : JJ S8 d D8 j rv half (liveN base rs) base rs false := (hj.old f7).keep g8.fr
  have hAl : (appW D.made.length half base rs b).length = pieceK (lastB base rs b) + 1 := by unfold appW; rw [List.length_append, piecesN_len]; rfl
  refine m_wf fun wf8 => m_seq (m_reg ?_)
  rw [reg11_9]
  rcases hr8 with ⟨rfl, rfl⟩ | ⟨hkl, hcut, rfl⟩
  case inr =>
    have hne : ((12 : Int) != 0) = true := by decide
    simp (decide := true) only [FT.get_set, FT.setL, faS_ptr, nilS_ptr, nilS_func, nilS_yield, pickS_bool, ldS_ptr, list_cells, list_ro, partS_none, lenSl_of, lenStr_of, cvInt_of, aminmax_max, aminmax_min, abin_add, abin_sub, abin_mul, abin_eql, abin_neq, abin_lss, abin_leq, abin_gtr, abin_geq, aunary_not, aextract, Option.some.injEq, Prod.mk.injEq, Value.bool.injEq, exists_eq_left', exists_and_left, and_assoc, decide_eq_true_eq, decide_eq_false_iff_not, if_true, if_false, Nat.zero_add, Nat.add_zero, Option.bind_some, true_and, and_true, forall_const, true_implies, Bool.not_eq_true, Bool.false_eq_true, false_implies, ite_self, Nat.mul_one, hne]
    refine m_cond (t := true) (by simp [evalT, FT.get_set, FT.setL, faS_ptr, nilS_ptr, nilS_func, nilS_yield, pickS_bool, ldS_ptr, list_cells, list_ro, partS_none, lenSl_of, lenStr_of, cvInt_of, aminmax_max, aminmax_min, abin_add, abin_sub, abin_mul, abin_eql, abin_neq, abin_lss, abin_leq, abin_gtr, abin_geq, aunary_not, aextract]) (fun _ => ?_) tf
    refine m_seq (m_reg ?_)
    rw [reg11_10]
    simp (decide := true) only [FT.get_set, FT.setL, faS_ptr, nilS_ptr, nilS_func, nilS_yield, pickS_bool, ldS_ptr, list_cells, list_ro, partS_none, lenSl_of, lenStr_of, cvInt_of, aminmax_max, aminmax_min, abin_add, abin_sub, abin_mul, abin_eql, abin_neq, abin_lss, abin_leq, abin_gtr, abin_geq, aunary_not, aextract, Option.some.injEq, Prod.mk.injEq, Value.bool.injEq, exists_eq_left', exists_and_left, and_assoc, decide_eq_true_eq, decide_eq_false_iff_not, if_true, if_false, Nat.zero_add, Nat.add_zero, Option.bind_some, true_and, and_true, forall_const, true_implies, Bool.not_eq_true, Bool.false_eq_true, false_implies, ite_self, Nat.mul_one, ]
    refine dies41J J8 12 (by decide) fun S9 J9 n9 e9 => ?_
    refine m_ret ?_
    simp [resM, FT.get_set, FT.setL, faS_ptr, nilS_ptr, nilS_func, nilS_yield, pickS_bool, ldS_ptr, list_cells, list_ro, partS_none, lenSl_of, lenStr_of, cvInt_of, aminmax_max, aminmax_min, abin_add, abin_sub, abin_mul, abin_eql, abin_neq, abin_lss, abin_leq, abin_gtr, abin_geq, aunary_not, aextract, oneOrTuple]
    obtain ⟨bv', tv', rl', k1, _⟩ := J8.ex
    refine q2 k S9 D8 (by omega) hcut ?_ J9
    rw [show (appW D.made.length half base rs b).take k = (piecesN (lastB base rs b) (placeN D.made.length half + liveN base rs / 256)).take k from take_app_le _ _ (by rw [piecesN_len]; omega)]
    exact G8.touch wf8 J8.fj.1 k1 (jlen _ _ _ _ _ _ _) n9 e9
  have htk : (piecesN (lastB base rs b) (placeN D.made.length half + liveN base rs / 256)).take (pieceK (lastB base rs b)) = piecesN (lastB base rs b) (placeN D.made.length half + liveN base rs / 256) := by
    rw [← piecesN_len (lastB base rs b) (placeN D.made.length half + liveN base rs / 256), List.take_length]
  rw [htk] at G8
  simp (decide := true) only [FT.get_set, FT.setL, faS_ptr, nilS_ptr, nilS_func, nilS_yield, pickS_bool, ldS_ptr, list_cells, list_ro, partS_none, lenSl_of, lenStr_of, cvInt_of, aminmax_max, aminmax_min, abin_add, abin_sub, abin_mul, abin_eql, abin_neq, abin_lss, abin_leq, abin_gtr, abin_geq, aunary_not, aextract, Option.some.injEq, Prod.mk.injEq, Value.bool.injEq, exists_eq_left', exists_and_left, and_assoc, decide_eq_true_eq, decide_eq_false_iff_not, if_true, if_false, Nat.zero_add, Nat.add_zero, Option.bind_some, true_and, and_true, forall_const, true_implies, Bool.not_eq_true, Bool.false_eq_true, false_implies, ite_self, Nat.mul_one, bne_self_eq_false]
  refine m_cond (t := false) (by simp [evalT, FT.get_set, FT.setL, faS_ptr, nilS_ptr, nilS_func, nilS_yield, pickS_bool, ldS_ptr, list_cells, list_ro, partS_none, lenSl_of, lenStr_of, cvInt_of, aminmax_max, aminmax_min, abin_add, abin_sub, abin_mul, abin_eql, abin_neq, abin_lss, abin_leq, abin_gtr, abin_geq, aunary_not, aextract]) ff (fun _ => m_skip ?_)
  simp only
  have hv8 : v7.cells = #[v7] := (SlF.one hlast).1
  have hE78 : ∀ y, FrD S7 d D y → S8.m y = S7.m y := fun y hy => (g8.fr y hy).1
  have hb8 : RB S8 v b := (hb.keep wf f7.2).keepOn fun y hy => hE78 y ((hon y hy).1.old f7)
  have hon8 : ∀ y, On v y → Fr S8 d D8 j rv y := fun y hy => ((G8.fr y (hon y hy)).2)
  have hlast8 : RB S8 v7 (lastB base rs b) := (RB.own hlast).keepOn fun y hy => hE78 y (FrD.new h wf (SlF.on hlast hy) ((RB.own hlast).on_lt wf7 hy))
  -- the new end
  obtain ⟨bv', tv', rl', k1, k2, k3, k4, k5, k6⟩ := J8.ex
  refine m_seq (m_draw ?_)
  rw [reg11_11]
  simp (decide := true) only [FT.get_set, FT.setL, faS_ptr, nilS_ptr, nilS_func, nilS_yield, pickS_bool, ldS_ptr, list_cells, list_ro, partS_none, lenSl_of, lenStr_of, cvInt_of, aminmax_max, aminmax_min, abin_add, abin_sub, abin_mul, abin_eql, abin_neq, abin_lss, abin_leq, abin_gtr, abin_geq, aunary_not, aextract, Option.some.injEq, Prod.mk.injEq, Value.bool.injEq, exists_eq_left', exists_and_left, and_assoc, decide_eq_true_eq, decide_eq_false_iff_not, if_true, if_false, Nat.zero_add, Nat.add_zero, Option.bind_some, true_and, and_true, forall_const, true_implies, Bool.not_eq_true, Bool.false_eq_true, false_implies, ite_self, Nat.mul_one, ]
  refine callM_wf_post (laid31 hb8 (by omega) fun v9 S9 f9 s9 wf9 => ?_)
  have hj9 : S9.m j = some (.cells (jouL d half (liveN base rs : Nat) bv' rv tv' false) 0) := by rw [f9.2 j (wf8 _ _ k1)]; exact k1
  have hl9 := s9.lenSl
  rw [hlb] at hl9
  have z4 : IntKind.i64.wrap (((liveN base rs : Nat) : Int) + ((b.length + 8 : Nat) : Int)) = ((liveN base (rs ++ [b]) : Nat) : Int) := by rw [wrap_i64 (by omega) (by omega)]; omega
  simp (decide := true) only [FT.get_set, FT.setL, faS_ptr, nilS_ptr, nilS_func, nilS_yield, pickS_bool, ldS_ptr, list_cells, list_ro, partS_none, lenSl_of, lenStr_of, cvInt_of, aminmax_max, aminmax_min, abin_add, abin_sub, abin_mul, abin_eql, abin_neq, abin_lss, abin_leq, abin_gtr, abin_geq, aunary_not, aextract, Option.some.injEq, Prod.mk.injEq, Value.bool.injEq, exists_eq_left', exists_and_left, and_assoc, decide_eq_true_eq, decide_eq_false_iff_not, if_true, if_false, Nat.zero_add, Nat.add_zero, Option.bind_some, true_and, and_true, forall_const, true_implies, Bool.not_eq_true, Bool.false_eq_true, false_implies, ite_self, Nat.mul_one, list_of hj9, list_of k1, jl2, veq_int, hl9, z4]
  have G9 := G8.old wf8 f9
  have J9 := J8.old f9
  have hlast9 := hlast8.keep wf8 f9.2
  have hb9 := hb8.keep wf8 f9.2
  have hon9 : ∀ y, On v y → Fr S9 d D8 j rv y := fun y hy => (hon8 y hy).old f9
  have hmd : D8.made = D.made := G9.wn.made
  -- the first block
  refine m_seq (m_seq (m_draw ?_))
  rw [reg11_12]
  simp (decide := true) only [FT.get_set, FT.setL, faS_ptr, nilS_ptr, nilS_func, nilS_yield, pickS_bool, ldS_ptr, list_cells, list_ro, partS_none, lenSl_of, lenStr_of, cvInt_of, aminmax_max, aminmax_min, abin_add, abin_sub, abin_mul, abin_eql, abin_neq, abin_lss, abin_leq, abin_gtr, abin_geq, aunary_not, aextract, Option.some.injEq, Prod.mk.injEq, Value.bool.injEq, exists_eq_left', exists_and_left, and_assoc, decide_eq_true_eq, decide_eq_false_iff_not, if_true, if_false, Nat.zero_add, Nat.add_zero, Option.bind_some, true_and, and_true, forall_const, true_implies, Bool.not_eq_true, Bool.false_eq_true, false_implies, ite_self, Nat.mul_one, list_of hj9, jl1]
  refine callM_wf_post (head34 half (liveN base (rs ++ [b])) (by omega) (by omega) fun v10 S10 f10 s10 wf10 => ?_)
  have hj10 : S10.m j = some (.cells (jouL d half (liveN base rs : Nat) bv' rv tv' false) 0) := by rw [f10.2 j (wf9 _ _ hj9)]; exact hj9
  have G10 := G9.old wf9 f10
  have J10 := J9.old f10
  have hws8 := G10.wn.ws
  rw [piecesN_len] at hws8
  simp (decide := true) only [FT.get_set, FT.setL, faS_ptr, nilS_ptr, nilS_func, nilS_yield, pickS_bool, ldS_ptr, list_cells, list_ro, partS_none, lenSl_of, lenStr_of, cvInt_of, aminmax_max, aminmax_min, abin_add, abin_sub, abin_mul, abin_eql, abin_neq, abin_lss, abin_leq, abin_gtr, abin_geq, aunary_not, aextract, Option.some.injEq, Prod.mk.injEq, Value.bool.injEq, exists_eq_left', exists_and_left, and_assoc, decide_eq_true_eq, decide_eq_false_iff_not, if_true, if_false, Nat.zero_add, Nat.add_zero, Option.bind_some, true_and, and_true, forall_const, true_implies, Bool.not_eq_true, Bool.false_eq_true, false_implies, ite_self, Nat.mul_one, list_of hj10, list_of hj9, jl0, veq_ptr]
  refine writeW G10.is G10.hw (i := 0) (by rw [hmd]; omega) s10 (headB_len _ _) (by omega) (Int.le_trans G10.wn.halt hhalt) (fun hcut => ?_) (fun hcut D11 S11 g11 => ?_)
  · refine m_seq (m_reg ?_)
    rw [reg11_13]
    have hne : ((12 : Int) != 0) = true := by decide
    simp (decide := true) only [FT.get_set, FT.setL, faS_ptr, nilS_ptr, nilS_func, nilS_yield, pickS_bool, ldS_ptr, list_cells, list_ro, partS_none, lenSl_of, lenStr_of, cvInt_of, aminmax_max, aminmax_min, abin_add, abin_sub, abin_mul, abin_eql, abin_neq, abin_lss, abin_leq, abin_gtr, abin_geq, aunary_not, aextract, Option.some.injEq, Prod.mk.injEq, Value.bool.injEq, exists_eq_left', exists_and_left, and_assoc, decide_eq_true_eq, decide_eq_false_iff_not, if_true, if_false, Nat.zero_add, Nat.add_zero, Option.bind_some, true_and, and_true, forall_const, true_implies, Bool.not_eq_true, Bool.false_eq_true, false_implies, ite_self, Nat.mul_one, hne]
    refine m_cond (t := true) (by simp [evalT, FT.get_set, FT.setL, faS_ptr, nilS_ptr, nilS_func, nilS_yield, pickS_bool, ldS_ptr, list_cells, list_ro, partS_none, lenSl_of, lenStr_of, cvInt_of, aminmax_max, aminmax_min, abin_add, abin_sub, abin_mul, abin_eql, abin_neq, abin_lss, abin_leq, abin_gtr, abin_geq, aunary_not, aextract]) (fun _ => ?_) tf
    refine m_seq (m_reg ?_)
    rw [reg11_14]
    simp (decide := true) only [FT.get_set, FT.setL, faS_ptr, nilS_ptr, nilS_func, nilS_yield, pickS_bool, ldS_ptr, list_cells, list_ro, partS_none, lenSl_of, lenStr_of, cvInt_of, aminmax_max, aminmax_min, abin_add, abin_sub, abin_mul, abin_eql, abin_neq, abin_lss, abin_leq, abin_gtr, abin_geq, aunary_not, aextract, Option.some.injEq, Prod.mk.injEq, Value.bool.injEq, exists_eq_left', exists_and_left, and_assoc, decide_eq_true_eq, decide_eq_false_iff_not, if_true, if_false, Nat.zero_add, Nat.add_zero, Option.bind_some, true_and, and_true, forall_const, true_implies, Bool.not_eq_true, Bool.false_eq_true, false_implies, ite_self, Nat.mul_one, ]
    refine dies41J J10 12 (by decide) fun S11 J11 n11 e11 => ?_
    refine m_ret ?_
    simp [resM, FT.get_set, FT.setL, faS_ptr, nilS_ptr, nilS_func, nilS_yield, pickS_bool, ldS_ptr, list_cells, list_ro, partS_none, lenSl_of, lenStr_of, cvInt_of, aminmax_max, aminmax_min, abin_add, abin_sub, abin_mul, abin_eql, abin_neq, abin_lss, abin_leq, abin_gtr, abin_geq, aunary_not, aextract, oneOrTuple]
    refine q2 (pieceK (lastB base rs b)) S11 D8 (by omega) hcut ?_ J11
    rw [show (appW D.made.length half base rs b).take (pieceK (lastB base rs b)) = (piecesN (lastB base rs b) (placeN D.made.length half + liveN base rs / 256)).take (pieceK (lastB base rs b)) from take_app_le _ _ (by rw [piecesN_len]; omega), htk]
    exact G10.touch wf10 J10.fj.1 hj10 (jlen _ _ _ _ _ _ _) n11 e11
  · refine m_wf fun wf11 => m_seq (m_reg ?_)
    rw [reg11_13]
    simp (decide := true) only [FT.get_set, FT.setL, faS_ptr, nilS_ptr, nilS_func, nilS_yield, pickS_bool, ldS_ptr, list_cells, list_ro, partS_none, lenSl_of, lenStr_of, cvInt_of, aminmax_max, aminmax_min, abin_add, abin_sub, abin_mul, abin_eql, abin_neq, abin_lss, abin_leq, abin_gtr, abin_geq, aunary_not, aextract, Option.some.injEq, Prod.mk.injEq, Value.bool.injEq, exists_eq_left', exists_and_left, and_assoc, decide_eq_true_eq, decide_eq_false_iff_not, if_true, if_false, Nat.zero_add, Nat.add_zero, Option.bind_some, true_and, and_true, forall_const, true_implies, Bool.not_eq_true, Bool.false_eq_true, false_implies, ite_self, Nat.mul_one, bne_self_eq_false]
    refine m_cond (t := false) (by simp [evalT, FT.get_set, FT.setL, faS_ptr, nilS_ptr, nilS_func, nilS_yield, pickS_bool, ldS_ptr, list_cells, list_ro, partS_none, lenSl_of, lenStr_of, cvInt_of, aminmax_max, aminmax_min, abin_add, abin_sub, abin_mul, abin_eql, abin_neq, abin_lss, abin_leq, abin_gtr, abin_geq, aunary_not, aextract]) ff (fun _ => m_skip ?_)
    simp only
    have G11 := G10.goes g11
    have J11 := J10.keep g11.fr
    have hv11 : RB S11 v b := (hb9.keep wf9 f10.2).keepOn fun y hy => (g11.fr y ((hon9 y hy).1.old f10)).1
    have hon11 : ∀ y, On v y → Fr S11 d D11 j rv y := fun y hy => ⟨(g11.fr y ((hon9 y hy).1.old f10)).2, (hon9 y hy).2⟩
    have hl11 : RB S11 v7 (lastB base rs b) := (hlast9.keep wf9 f10.2).keepOn fun y hy => by
      have k1 := SlF.on hlast hy
      have k2 := (RB.own hlast).on_lt wf7 hy
      have k3 : FrD S8 d D8 y := (g8.fr y (FrD.new h wf k1 k2)).2
      exact (g11.fr y ((k3.old f9).old f10)).1
    refine (fin11 (b := b) (v := v) (v7 := v7) G11 wf11 J11 hv11 hon11 hl11 hbl (by omega) (by simp [FT.get_set, FT.setL, faS_ptr, nilS_ptr, nilS_func, nilS_yield, pickS_bool, ldS_ptr, list_cells, list_ro, partS_none, lenSl_of, lenStr_of, cvInt_of, aminmax_max, aminmax_min, abin_add, abin_sub, abin_mul, abin_eql, abin_neq, abin_lss, abin_leq, abin_gtr, abin_geq, aunary_not, aextract]) (by simp [FT.get_set, FT.setL, faS_ptr, nilS_ptr, nilS_func, nilS_yield, pickS_bool, ldS_ptr, list_cells, list_ro, partS_none, lenSl_of, lenStr_of, cvInt_of, aminmax_max, aminmax_min, abin_add, abin_sub, abin_mul, abin_eql, abin_neq, abin_lss, abin_leq, abin_gtr, abin_geq, aunary_not, aextract]) (by simp [FT.get_set, FT.setL, faS_ptr, nilS_ptr, nilS_func, nilS_yield, pickS_bool, ldS_ptr, list_cells, list_ro, partS_none, lenSl_of, lenStr_of, cvInt_of, aminmax_max, aminmax_min, abin_add, abin_sub, abin_mul, abin_eql, abin_neq, abin_lss, abin_leq, abin_gtr, abin_geq, aunary_not, aextract]) (by simp [FT.get_set, FT.setL, faS_ptr, nilS_ptr, nilS_func, nilS_yield, pickS_bool, ldS_ptr, list_cells, list_ro, partS_none, lenSl_of, lenStr_of, cvInt_of, aminmax_max, aminmax_min, abin_add, abin_sub, abin_mul, abin_eql, abin_neq, abin_lss, abin_leq, abin_gtr, abin_geq, aunary_not, aextract])).mono ?_
    rintro x T' S12 ⟨rfl, t4, rv', G12, J12⟩
    simp [resM, t4, oneOrTuple]
    exact q1 S12 D11 rv' G12 J12
end Go.Proofs.Ytmfmbadfgnhonaa
namespace Go.Proofs.Ytmfmbadfgnhonaa
open Go Go.Ag
set_option linter.unusedVariables false
set_option maxRecDepth 100000

/-- the writes of a Snapshot -/
def snapW (n half : Nat) (b : List UInt8) : List (Nat × List UInt8) := piecesN (laid b) (placeN n half) ++ [(0, headB half (laid b).length)]

theorem fin12 {S S1 : MS} {d j : Nat} {D D1 : DK} {c0 : Nat → List UInt8} {W V : List (Nat × List UInt8)} {rv v v6 : Value} {half half' end' : Nat} {base b : List UInt8} {rs : List (List UInt8)} (hg : JGo S d D c0 W j rv S1 D1 rv V) (wf1 : S1.WF) (hj : JJ S1 d D1 j rv half end' base rs false) (hb : RB S1 v b) (hon : ∀ y, On v y → Fr S1 d D1 j rv y) (hv6 : RB S1 v6 (laid b)) (hbl : b.length ≤ 300000)
    {T : FT} (t0 : T.get 0 = .pointer (some ⟨j, 0, none⟩)) (t1 : T.get 1 = v) (t5 : T.get 5 = .int .i64 half') (t6 : T.get 6 = v6) :
    MWp Try.prog O 85 (.seq (.region 12 (ro 12 12) false) (.seq (.region 13 (ro 12 13) false) (.seq (.region 14 (ro 12 14) false) .ret))) T S1 fun x T' S' => x = .ret ∧ T'.get 4 = .int .i64 0 ∧ JGo S d D c0 W j rv S' D1 (.slice none 0 0) V ∧ JJ S' d D1 j (.slice none 0 0) half' (liveN b []) b [] false := by
  obtain ⟨bv, tv, rl, h1, h2, h3, h4, h5, h6⟩ := hj.ex
  have hjlt := wf1 _ _ h1
  have hlb : (laid b).length = b.length + 8 := laid_len b
  have hlv : liveN b [] = b.length + 8 := by unfold liveN; simp [wsum]
  have hall : allB b [] = laid b := by simp [allB]
  refine m_seq (m_reg ?_)
  rw [reg12_12]
  have w1 : ((laid b).length : Int).tdiv 256 = (((laid b).length / 256 : Nat) : Int) := by rw [Int.tdiv_eq_ediv_of_nonneg (by omega)]; rfl
  have w2 : IntKind.i64.wrap (((laid b).length / 256 : Nat) : Int) = (((laid b).length / 256 : Nat) : Int) := wrap_i64 (by omega) (by omega)
  have w3 : IntKind.i64.wrap ((((laid b).length / 256 : Nat) : Int) * 256) = (((laid b).length / 256 * 256 : Nat) : Int) := by rw [wrap_i64 (by omega) (by omega)]; omega
  have q1 : abin Try.prog .quo 3 (.tmp 66) (.const (.int .i64 256)) (.int .i64 ((laid b).length : Int)) (.int .i64 256) = some (.int .i64 (((laid b).length / 256 : Nat) : Int)) := by rw [abin_quo _ _ _ _ _ _ _ (by decide), w1, w2]
  obtain ⟨v8, a1, a2⟩ := hv6.sub (i := (laid b).length / 256 * 256) (j := (laid b).length) (low := some (.int .i64 (((laid b).length / 256 * 256 : Nat) : Int))) (high := none) (by omega) (Nat.le_refl _) (.inr rfl) (.inl ⟨rfl, rfl⟩)
  rw [List.take_of_length_le (by rw [List.length_drop]; omega)] at a2
  simp (decide := true) only [FT.get_set, FT.setL, faS_ptr, nilS_ptr, nilS_func, nilS_yield, pickS_bool, ldS_ptr, list_cells, list_ro, partS_none, lenSl_of, lenStr_of, cvInt_of, aminmax_max, aminmax_min, abin_add, abin_sub, abin_mul, abin_eql, abin_neq, abin_lss, abin_leq, abin_gtr, abin_geq, aunary_not, aextract, Option.some.injEq, Prod.mk.injEq, Value.bool.injEq, exists_eq_left', exists_and_left, and_assoc, decide_eq_true_eq, decide_eq_false_iff_not, if_true, if_false, Nat.zero_add, Nat.add_zero, Option.bind_some, true_and, and_true, forall_const, true_implies, Bool.not_eq_true, Bool.false_eq_true, false_implies, ite_self, Nat.mul_one, t0, t5, t6, hv6.len, q1, w3, a1]
  refine callM_wf_post (clone40 a2 (by rw [List.length_drop]; omega) fun v9 S2 f2 s9 wf2 => ?_)
  have hj2 : S2.m j = some (.cells (jouL d half end' bv rv tv false) 0) := by rw [f2.2 j hjlt]; exact h1
  obtain ⟨S3, u1, u2, u3, u4⟩ := st_one (off := 1) (v := .int .i64 half') hj2 (by rw [jlen]; decide) rfl rfl
  rw [js1] at u2
  refine ⟨S3, u1, ?_⟩
  obtain ⟨S4, x1, x2, x3, x4⟩ := st_one (off := 2) (v := .int .i64 (laid b).length) u2 (by rw [jlen]; decide) rfl rfl
  rw [js2] at x2
  refine ⟨S4, x1, ?_⟩
  obtain ⟨S5, y1, y2, y3, y4⟩ := st_one (off := 5) (v := v9) x2 (by rw [jlen]; decide) (SlF.one s9).1 (SlF.one s9).2
  rw [js5] at y2
  refine ⟨S5, y1, ?_⟩
  refine m_wf fun wf5 => m_seq (m_reg ?_)
  rw [reg12_13]
  have e25 : ∀ x, x ≠ j → S5.m x = S2.m x := fun x hx => by rw [y4 x hx, x4 x hx, u4 x hx]
  have n25 : S5.n = S2.n := by rw [y3, x3, u3]
  have e15 : ∀ x, x < S1.n → x ≠ j → S5.m x = S1.m x := fun x hx hne => by rw [e25 x hne, f2.2 x hx]
  have hb5 : RB S5 v b := hb.keepOn fun y hy => e15 y (hon y hy).1.1 (hon y hy).2.1
  simp (decide := true) only [FT.get_set, FT.setL, faS_ptr, nilS_ptr, nilS_func, nilS_yield, pickS_bool, ldS_ptr, list_cells, list_ro, partS_none, lenSl_of, lenStr_of, cvInt_of, aminmax_max, aminmax_min, abin_add, abin_sub, abin_mul, abin_eql, abin_neq, abin_lss, abin_leq, abin_gtr, abin_geq, aunary_not, aextract, Option.some.injEq, Prod.mk.injEq, Value.bool.injEq, exists_eq_left', exists_and_left, and_assoc, decide_eq_true_eq, decide_eq_false_iff_not, if_true, if_false, Nat.zero_add, Nat.add_zero, Option.bind_some, true_and, and_true, forall_const, true_implies, Bool.not_eq_true, Bool.false_eq_true, false_implies, ite_self, Nat.mul_one, t0, t1]
  have n12 := f2.1
  refine callM_wf_post (clone40 hb5 (by omega) fun v10 S6 f6 s10 wf6 => ?_)
  have n56 := f6.1
  have hj6 : S6.m j = _ := (f6.2 j (by omega)).trans y2
  obtain ⟨S7, z1, z2, z3, z4⟩ := st_one (off := 3) (v := v10) hj6 (by rw [jlen]; decide) (SlF.one s10).1 (SlF.one s10).2
  rw [js3] at z2
  refine ⟨S7, z1, ?_⟩
  obtain ⟨S8, p1, p2, p3, p4⟩ := st_one (off := 4) (v := .slice none 0 0) z2 (by rw [jlen]; decide) rfl rfl
  rw [js4] at p2
  refine ⟨S8, p1, ?_⟩
  refine m_seq (m_reg ?_)
  rw [reg12_14]
  refine m_ret ?_
  simp [FT.get_set, FT.setL, faS_ptr, nilS_ptr, nilS_func, nilS_yield, pickS_bool, ldS_ptr, list_cells, list_ro, partS_none, lenSl_of, lenStr_of, cvInt_of, aminmax_max, aminmax_min, abin_add, abin_sub, abin_mul, abin_eql, abin_neq, abin_lss, abin_leq, abin_gtr, abin_geq, aunary_not, aextract]
  have e68 : ∀ x, x ≠ j → S8.m x = S6.m x := fun x hx => by rw [p4 x hx, z4 x hx]
  have n68 : S8.n = S6.n := by rw [p3, z3]
  have g2 : JGo S d D c0 W j rv S2 D1 rv V := hg.old wf1 f2
  have fj2 : FrD S2 d D1 j := hj.fj.1.old f2
  have g5 : JGo S d D c0 W j rv S5 D1 rv V := g2.touch wf2 fj2 hj2 (jlen _ _ _ _ _ _ _) n25 e25
  have g6 : JGo S d D c0 W j rv S6 D1 rv V := g5.old wf5 f6
  have fj6 : FrD S6 d D1 j := ⟨by omega, fj2.2⟩
  have g8 : JGo S d D c0 W j rv S8 D1 rv V := g6.touch wf6 fj6 hj6 (jlen _ _ _ _ _ _ _) n68 e68
  have hav : ∀ y, Av (.slice none 0 0) y := fun y l c e => by cases e
  have hFnew : ∀ y, S1.n ≤ y → y < S8.n → FrD S8 d D1 y := fun y h1 h2 => FrD.new hg.is wf1 h1 h2
  refine ⟨⟨g8.is, g8.hw, g8.wn, g8.le, fun y hy => ⟨(g8.fr y hy).1, (g8.fr y hy).2.1, (g8.fr y hy).2.2.1, hav y⟩⟩, ⟨v10, v9, [], ?_, ?_, .non, ⟨rfl, fun i x r hx => by cases hx⟩, ?_, fun y hy => ?_⟩, ⟨⟨by omega, fj2.2⟩, hav j⟩, fun y hy => absurd (hav y) hy⟩
  · rw [p2, hlb, hlv]
  · refine (RB.own s10).keepOn fun y hy => ?_
    have := SlF.on s10 hy
    exact e68 y (by omega)
  · rw [hall, hlv, ← hlb]
    refine (RB.own s9).keepOn fun y hy => ?_
    have k1 := SlF.on s9 hy
    have k2 := (RB.own s9).on_lt wf2 hy
    rw [e68 y (by omega), f6.2 y (by omega), e25 y (by omega)]
  · rcases hy with hy | hy | ⟨x, hx, _⟩
    · have k1 := SlF.on s10 hy
      have k2 := (RB.own s10).on_lt wf6 hy
      exact ⟨hFnew y (by omega) (by omega), by omega, hav y⟩
    · have k1 := SlF.on s9 hy
      have k2 := (RB.own s9).on_lt wf2 hy
      exact ⟨hFnew y (by omega) (by omega), by omega, hav y⟩
    · cases hx
end Go.Proofs.Ytmfmbadfgnhonaa

