/-
  The walk through the journal's code: what its functions do to memory, part FmJ15. Nothing is asked.
-/
import Derived.Test.YtmfmbadfgnhonaaFmJ14
set_option linter.all false
namespace Go.Proofs.Ytmfmbadfgnhonaa
open Go Go.Ag
set_option linter.unusedVariables false
set_option maxRecDepth 100000

/-! ### pieces -/
theorem bL_rep (n : Nat) : bL (List.replicate n 0) = List.replicate n (.int .u8 0) := by simp [bL]
def pieceN (bs : List UInt8) (i : Nat) : List UInt8 := (bs.drop (256 * i)).take 256 ++ List.replicate (256 - ((bs.drop (256 * i)).take 256).length) 0
theorem pieceN_len (bs : List UInt8) (i : Nat) : (pieceN bs i).length = 256 := by
  unfold pieceN
  rw [List.length_append, List.length_replicate, List.length_take]
  omega
def pieceK (bs : List UInt8) : Nat := (bs.length + 255) / 256
def piecesN (bs : List UInt8) (p : Nat) : List (Nat × List UInt8) := (List.range (pieceK bs)).map fun i => (p + i, pieceN bs i)
theorem piecesN_len (bs : List UInt8) (p : Nat) : (piecesN bs p).length = pieceK bs := by simp [piecesN]
theorem piecesN_take (bs : List UInt8) (p k : Nat) (h : k < pieceK bs) : (piecesN bs p).take (k + 1) = (piecesN bs p).take k ++ [(p + k, pieceN bs k)] := by
  have e : (piecesN bs p)[k]? = some (p + k, pieceN bs k) := by simp [piecesN, h]
  rw [List.take_add_one, e]; rfl

/-- a piece after another is told to a loop -/
theorem pieces47 {box l : Nat} {v : Value} {bs : List UInt8} (hsmall : bs.length ≤ 400000) (J : Nat → MS → Prop) (R : MS → Prop) {S : MS} (h0 : J 0 S)
    (hJ : ∀ k S, J k S → S.m box = some (.cells [v] 0) ∧ RB S v bs ∧ box < S.n)
    (step : ∀ k S, k < pieceK bs → S.WF → J k S → RoundM Try.prog O l [.int .i64 k, .slice (some ⟨S.n, 0, none⟩) 256 256] (S.fresh (bL (pieceN bs k)) 1) fun v S' => (v = .bool true ∧ J (k + 1) S') ∨ (v = .bool false ∧ R S')) :
    CallM Try.prog O 47 [.func (.yield l) #[] #[], .pointer (some ⟨box, 0, none⟩)] S fun _ S' => J (pieceK bs) S' ∨ R S' := by
  refine callM_body (fnIs is47 body47 res47) (O_none (by decide)) (by simp) ?_
  refine m_seq (m_reg ?_)
  rw [reg47_0]
  unfold blk47_0
  have hpk : pieceK bs ≤ 1563 := by unfold pieceK; omega
  refine m_block (m_loop (fun m T S' => ∃ k : Nat, k + m = pieceK bs ∧ T.get 0 = .func (.yield l) #[] #[] ∧ T.get 1 = .pointer (some ⟨box, 0, none⟩) ∧ T.get 3 = .int .i64 k ∧ J k S') (pieceK bs) ?_ ?_)
  · exact ⟨0, by omega, by simp [FT.get_set, FT.setL, faS_ptr, nilS_ptr, nilS_func, nilS_yield, pickS_bool, ldS_ptr, list_cells, list_ro, partS_none, lenSl_of, lenStr_of, cvInt_of, aminmax_max, aminmax_min, abin_add, abin_sub, abin_mul, abin_eql, abin_neq, abin_lss, abin_leq, abin_gtr, abin_geq, aunary_not, aextract], by simp [FT.get_set, FT.setL, faS_ptr, nilS_ptr, nilS_func, nilS_yield, pickS_bool, ldS_ptr, list_cells, list_ro, partS_none, lenSl_of, lenStr_of, cvInt_of, aminmax_max, aminmax_min, abin_add, abin_sub, abin_mul, abin_eql, abin_neq, abin_lss, abin_leq, abin_gtr, abin_geq, aunary_not, aextract], by simp [FT.get_set, FT.setL, faS_ptr, nilS_ptr, nilS_func, nilS_yield, pickS_bool, ldS_ptr, list_cells, list_ro, partS_none, lenSl_of, lenStr_of, cvInt_of, aminmax_max, aminmax_min, abin_add, abin_sub, abin_mul, abin_eql, abin_neq, abin_lss, abin_leq, abin_gtr, abin_geq, aunary_not, aextract], h0⟩
  · rintro m T S1 ⟨k, hk, t0, t1, t3, hj⟩
    obtain ⟨hb, hrb, hlt⟩ := hJ k S1 hj
    refine m_wf fun wf1 => m_seq (m_seq (m_reg ?_))
    rw [reg47_1]
    have hw : IntKind.i64.wrap ((k : Int) * 256) = ((256 * k : Nat) : Int) := by rw [wrap_i64 (by omega) (by omega)]; omega
    simp (decide := true) only [FT.get_set, FT.setL, faS_ptr, nilS_ptr, nilS_func, nilS_yield, pickS_bool, ldS_ptr, list_cells, list_ro, partS_none, lenSl_of, lenStr_of, cvInt_of, aminmax_max, aminmax_min, abin_add, abin_sub, abin_mul, abin_eql, abin_neq, abin_lss, abin_leq, abin_gtr, abin_geq, aunary_not, aextract, Option.some.injEq, Prod.mk.injEq, Value.bool.injEq, exists_eq_left', exists_and_left, and_assoc, decide_eq_true_eq, decide_eq_false_iff_not, if_true, if_false, Nat.zero_add, Nat.add_zero, Option.bind_some, true_and, and_true, forall_const, true_implies, Bool.not_eq_true, Bool.false_eq_true, false_implies, ite_self, Nat.mul_one, t1, t3, hw, list_of hb, List.getElem?_cons_zero, hrb.len]
    refine m_cond (t := decide (((256 * k : Nat) : Int) < bs.length)) (by simp [evalT, FT.get_set, FT.setL, faS_ptr, nilS_ptr, nilS_func, nilS_yield, pickS_bool, ldS_ptr, list_cells, list_ro, partS_none, lenSl_of, lenStr_of, cvInt_of, aminmax_max, aminmax_min, abin_add, abin_sub, abin_mul, abin_eql, abin_neq, abin_lss, abin_leq, abin_gtr, abin_geq, aunary_not, aextract]) (fun h => m_skip ?_) (fun h => m_exit ?_)
    · have hlt2 : 256 * k < bs.length := by have := of_decide_eq_true h; omega
      have hkk : k < pieceK bs := by unfold pieceK; omega
      simp only
      unfold blk47_1
      refine m_seq (m_block (m_seq (m_reg ?_)))
      rw [reg47_3]
      have hms : msS S1 1 1 [.int .u8 0] (.int .i64 256) (.int .i64 256) = some (.slice (some ⟨S1.n, 0, none⟩) 256 256, S1.fresh (bL (List.replicate 256 0)) 1) := by
        have hz : zeros [.int .u8 0] 256 = bL (List.replicate 256 0) := by rw [zeros_one]; simp [bL]
        rw [← hz]; exact msS_of (n := 256) S1 1 1 [.int .u8 0] .i64 .i64 (by omega) (by omega)
      simp (decide := true) only [FT.get_set, FT.setL, faS_ptr, nilS_ptr, nilS_func, nilS_yield, pickS_bool, ldS_ptr, list_cells, list_ro, partS_none, lenSl_of, lenStr_of, cvInt_of, aminmax_max, aminmax_min, abin_add, abin_sub, abin_mul, abin_eql, abin_neq, abin_lss, abin_leq, abin_gtr, abin_geq, aunary_not, aextract, Option.some.injEq, Prod.mk.injEq, Value.bool.injEq, exists_eq_left', exists_and_left, and_assoc, decide_eq_true_eq, decide_eq_false_iff_not, if_true, if_false, Nat.zero_add, Nat.add_zero, Option.bind_some, true_and, and_true, forall_const, true_implies, Bool.not_eq_true, Bool.false_eq_true, false_implies, ite_self, Nat.mul_one, hms]
      refine m_seq (m_reg ?_)
      rw [reg47_4]
      have f2 := old_fresh S1 (bL (List.replicate 256 0)) 1
      have hb2 : (S1.fresh (bL (List.replicate 256 0)) 1).m box = some (.cells [v] 0) := by rw [f2.2 _ hlt]; exact hb
      have hrb2 := hrb.keep wf1 f2.2
      obtain ⟨v2, q1, q2⟩ := hrb2.sub (i := 256 * k) (j := bs.length) (low := some (.int .i64 ((256 * k : Nat) : Int))) (high := none) (by omega) (Nat.le_refl _) (.inr rfl) (.inl ⟨rfl, rfl⟩)
      have e2 : (bs.drop (256 * k)).take (bs.length - 256 * k) = bs.drop (256 * k) := List.take_of_length_le (by rw [List.length_drop]; exact Nat.le_refl _)
      rw [e2] at q2
      have hdl : (bs.drop (256 * k)).length = bs.length - 256 * k := List.length_drop
      obtain ⟨n, hn⟩ : ∃ n, n = Nat.min (bs.drop (256 * k)).length 256 := ⟨_, rfl⟩
      have hn0 : n ≠ 0 := by rw [hn]; simp only [Nat.min_def]; split <;> omega
      have hnl : n ≤ (bs.drop (256 * k)).length := by rw [hn]; exact Nat.min_le_left _ _
      have hn256 : n ≤ 256 := by rw [hn]; exact Nat.min_le_right _ _
      have htk : (bs.drop (256 * k)).take n = (bs.drop (256 * k)).take 256 := by
        rw [hn]; show List.take (min _ _) _ = _
        rw [Nat.min_comm, ← List.take_take, List.take_length]
      have hcp := cpS_of (dcap := 256) (off := 0) (fresh_at S1 (bL (List.replicate 256 0)) 1) q2.lenA hn.symm hn0 (q2.first hnl) (bL_one _) (by rw [bL_len, bL_len, List.length_replicate, List.length_take]; omega)
      have hsp : spliceL (bL (List.replicate 256 0)) (bL ((bs.drop (256 * k)).take n)) 0 = bL (pieceN bs k) := by
        unfold spliceL pieceN
        rw [htk, bL_append, bL_len, bL_rep, bL_rep, List.drop_replicate, Nat.zero_add, List.take_zero, List.nil_append]
      rw [hsp, set_fresh] at hcp
      simp (decide := true) only [FT.get_set, FT.setL, faS_ptr, nilS_ptr, nilS_func, nilS_yield, pickS_bool, ldS_ptr, list_cells, list_ro, partS_none, lenSl_of, lenStr_of, cvInt_of, aminmax_max, aminmax_min, abin_add, abin_sub, abin_mul, abin_eql, abin_neq, abin_lss, abin_leq, abin_gtr, abin_geq, aunary_not, aextract, Option.some.injEq, Prod.mk.injEq, Value.bool.injEq, exists_eq_left', exists_and_left, and_assoc, decide_eq_true_eq, decide_eq_false_iff_not, if_true, if_false, Nat.zero_add, Nat.add_zero, Option.bind_some, true_and, and_true, forall_const, true_implies, Bool.not_eq_true, Bool.false_eq_true, false_implies, ite_self, Nat.mul_one, t1, t3, hw, list_of hb2, List.getElem?_cons_zero, q1, hcp]
      refine m_seq (m_reg ?_)
      rw [reg47_5]
      simp (decide := true) only [FT.get_set, FT.setL, faS_ptr, nilS_ptr, nilS_func, nilS_yield, pickS_bool, ldS_ptr, list_cells, list_ro, partS_none, lenSl_of, lenStr_of, cvInt_of, aminmax_max, aminmax_min, abin_add, abin_sub, abin_mul, abin_eql, abin_neq, abin_lss, abin_leq, abin_gtr, abin_geq, aunary_not, aextract, Option.some.injEq, Prod.mk.injEq, Value.bool.injEq, exists_eq_left', exists_and_left, and_assoc, decide_eq_true_eq, decide_eq_false_iff_not, if_true, if_false, Nat.zero_add, Nat.add_zero, Option.bind_some, true_and, and_true, forall_const, true_implies, Bool.not_eq_true, Bool.false_eq_true, false_implies, ite_self, Nat.mul_one, t0, t3]
      refine CallV.mono (f := .func (.yield l) #[] #[]) (args := [.int .i64 k, .slice (some ⟨S1.n, 0, none⟩) 256 256]) (step k S1 hkk wf1 hj) ?_
      rintro y S3 (⟨rfl, hj2⟩ | ⟨rfl, hr⟩)
      · simp (decide := true) only [FT.get_set, FT.setL, faS_ptr, nilS_ptr, nilS_func, nilS_yield, pickS_bool, ldS_ptr, list_cells, list_ro, partS_none, lenSl_of, lenStr_of, cvInt_of, aminmax_max, aminmax_min, abin_add, abin_sub, abin_mul, abin_eql, abin_neq, abin_lss, abin_leq, abin_gtr, abin_geq, aunary_not, aextract, Option.some.injEq, Prod.mk.injEq, Value.bool.injEq, exists_eq_left', exists_and_left, and_assoc, decide_eq_true_eq, decide_eq_false_iff_not, if_true, if_false, Nat.zero_add, Nat.add_zero, Option.bind_some, true_and, and_true, forall_const, true_implies, Bool.not_eq_true, Bool.false_eq_true, false_implies, ite_self, Nat.mul_one, ]
        refine m_cond (t := false) (by simp [evalT, FT.get_set, FT.setL, faS_ptr, nilS_ptr, nilS_func, nilS_yield, pickS_bool, ldS_ptr, list_cells, list_ro, partS_none, lenSl_of, lenStr_of, cvInt_of, aminmax_max, aminmax_min, abin_add, abin_sub, abin_mul, abin_eql, abin_neq, abin_lss, abin_leq, abin_gtr, abin_geq, aunary_not, aextract]) (fun h => by cases h) (fun _ => m_skip ?_)
        simp only
        refine m_reg ?_
        rw [reg47_2]
        have hw2 : IntKind.i64.wrap ((k : Int) + 1) = ((k + 1 : Nat) : Int) := by rw [wrap_i64 (by omega) (by omega)]; rfl
        simp (decide := true) only [FT.get_set, FT.setL, faS_ptr, nilS_ptr, nilS_func, nilS_yield, pickS_bool, ldS_ptr, list_cells, list_ro, partS_none, lenSl_of, lenStr_of, cvInt_of, aminmax_max, aminmax_min, abin_add, abin_sub, abin_mul, abin_eql, abin_neq, abin_lss, abin_leq, abin_gtr, abin_geq, aunary_not, aextract, Option.some.injEq, Prod.mk.injEq, Value.bool.injEq, exists_eq_left', exists_and_left, and_assoc, decide_eq_true_eq, decide_eq_false_iff_not, if_true, if_false, Nat.zero_add, Nat.add_zero, Option.bind_some, true_and, and_true, forall_const, true_implies, Bool.not_eq_true, Bool.false_eq_true, false_implies, ite_self, Nat.mul_one, t3, hw2]
        exact ⟨m - 1, by omega, k + 1, by omega, by simp [FT.get_set, FT.setL, faS_ptr, nilS_ptr, nilS_func, nilS_yield, pickS_bool, ldS_ptr, list_cells, list_ro, partS_none, lenSl_of, lenStr_of, cvInt_of, aminmax_max, aminmax_min, abin_add, abin_sub, abin_mul, abin_eql, abin_neq, abin_lss, abin_leq, abin_gtr, abin_geq, aunary_not, aextract, t0], by simp [FT.get_set, FT.setL, faS_ptr, nilS_ptr, nilS_func, nilS_yield, pickS_bool, ldS_ptr, list_cells, list_ro, partS_none, lenSl_of, lenStr_of, cvInt_of, aminmax_max, aminmax_min, abin_add, abin_sub, abin_mul, abin_eql, abin_neq, abin_lss, abin_leq, abin_gtr, abin_geq, aunary_not, aextract, t1], by simp [FT.get_set, FT.setL, faS_ptr, nilS_ptr, nilS_func, nilS_yield, pickS_bool, ldS_ptr, list_cells, list_ro, partS_none, lenSl_of, lenStr_of, cvInt_of, aminmax_max, aminmax_min, abin_add, abin_sub, abin_mul, abin_eql, abin_neq, abin_lss, abin_leq, abin_gtr, abin_geq, aunary_not, aextract], hj2⟩
      · simp (decide := true) only [FT.get_set, FT.setL, faS_ptr, nilS_ptr, nilS_func, nilS_yield, pickS_bool, ldS_ptr, list_cells, list_ro, partS_none, lenSl_of, lenStr_of, cvInt_of, aminmax_max, aminmax_min, abin_add, abin_sub, abin_mul, abin_eql, abin_neq, abin_lss, abin_leq, abin_gtr, abin_geq, aunary_not, aextract, Option.some.injEq, Prod.mk.injEq, Value.bool.injEq, exists_eq_left', exists_and_left, and_assoc, decide_eq_true_eq, decide_eq_false_iff_not, if_true, if_false, Nat.zero_add, Nat.add_zero, Option.bind_some, true_and, and_true, forall_const, true_implies, Bool.not_eq_true, Bool.false_eq_true, false_implies, ite_self, Nat.mul_one, ]
        refine m_cond (t := true) (by simp [evalT, FT.get_set, FT.setL, faS_ptr, nilS_ptr, nilS_func, nilS_yield, pickS_bool, ldS_ptr, list_cells, list_ro, partS_none, lenSl_of, lenStr_of, cvInt_of, aminmax_max, aminmax_min, abin_add, abin_sub, abin_mul, abin_eql, abin_neq, abin_lss, abin_leq, abin_gtr, abin_geq, aunary_not, aextract]) (fun _ => ?_) (fun h => by cases h)
        refine m_ret ?_
        simp [resM]
        exact .inr hr
    · have : k = pieceK bs := by have := of_decide_eq_false h; unfold pieceK at hk ⊢; omega
      subst this
      simp [resM]
      exact .inl hj
end Go.Proofs.Ytmfmbadfgnhonaa

