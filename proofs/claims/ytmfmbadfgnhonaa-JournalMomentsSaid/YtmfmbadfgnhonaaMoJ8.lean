/-
  The walk through the journal's code: what its functions do to memory, part MoJ8. Nothing is asked.
-/
import Derived.Test.YtmfmbadfgnhonaaMoJ7
set_option linter.all false
namespace Go.Proofs.Ytmfmbadfgnhonaa
open Go Go.Ag
set_option linter.unusedVariables false
set_option maxRecDepth 100000

/-! ### pieces -/
theorem bL_rep (n : Nat) : bL (List.replicate n 0) = List.replicate n (.int .u8 0) := by simp [bL]
def pieceN (bs : List UInt8) (i : Nat) : List UInt8 := (bs.drop (256 * i)).take 256 ++ List.replicate (256 - ((bs.drop (256 * i)).take 256).length) 0
theorem pieceN_len (bs : List UInt8) (i : Nat) : (pieceN bs i).length = 256 := by
  unfold pieceN
  rw [List.length_append, List.length_replicate, List.length_take]
  omega
def pieceK (bs : List UInt8) : Nat := (bs.length + 255) / 256
def piecesN (bs : List UInt8) (p : Nat) : List (Nat × List UInt8) := (List.range (pieceK bs)).map fun i => (p + i, pieceN bs i)
theorem piecesN_len (bs : List UInt8) (p : Nat) : (piecesN bs p).length = pieceK bs := by simp [piecesN]
theorem piecesN_take (bs : List UInt8) (p k : Nat) (h : k < pieceK bs) : (piecesN bs p).take (k + 1) = (piecesN bs p).take k ++ [(p + k, pieceN bs k)] := by
  have e : (piecesN bs p)[k]? = some (p + k, pieceN bs k) := by simp [piecesN, h]
  rw [List.take_add_one, e]; rfl

/-- a piece after another is told to a loop -/
theorem pieces47 {box l : Nat} {v : Value} {bs : List UInt8} (hsmall : bs.length ≤ 400000) (J : Nat → MS → Prop) (R : MS → Prop) {S : MS} (h0 : J 0 S)
    (hJ : ∀ k S, J k S → S.m box = some (.cells [v] 0) ∧ RB S v bs ∧ box < S.n)
    (step : ∀ k S, k < pieceK bs → S.WF → J k S → RoundM Try.prog O l [.int .i64 k, .slice (some ⟨S.n, 0, none⟩) 256 256] (S.fresh (bL (pieceN bs k)) 1) fun v S' => (v = .bool true ∧ J (k + 1) S') ∨ (v = .bool false ∧ R S')) :
    CallM Try.prog O 47 [.func (.yield l) #[] #[], .pointer (some ⟨box, 0, none⟩)] S fun _ S' => J (pieceK bs) S' ∨ R S' := by
  refine callM_body (fnIs is47 body47 res47) (O_none (by decide)) (by simp) ?_
  refine m_seq (m_reg ?_)
  rw [reg47_0]
  unfold blk47_0
  have hpk : pieceK bs ≤ 1563 := by unfold pieceK; omega
  refine m_block (m_loop (fun m T S' => ∃ k : Nat, k + m = pieceK bs ∧ T.get 0 = .func (.yield l) #[] #[] ∧ T.get 1 = .pointer (some ⟨box, 0, none⟩) ∧ T.get 3 = .int .i64 k ∧ J k S') (pieceK bs) ?_ ?_)
  · exact ⟨0, by omega, by simp [FT.get_set, FT.setL, faS_ptr, nilS_ptr, nilS_func, nilS_yield, pickS_bool, ldS_ptr, list_cells, list_ro, partS_none, lenSl_of, lenStr_of, cvInt_of, aminmax_max, aminmax_min, abin_add, abin_sub, abin_mul, abin_eql, abin_neq, abin_lss, abin_leq, abin_gtr, abin_geq, aunary_not, aextract], by simp [FT.get_set, FT.setL, faS_ptr, nilS_ptr, nilS_func, nilS_yield, pickS_bool, ldS_ptr, list_cells, list_ro, partS_none, lenSl_of, lenStr_of, cvInt_of, aminmax_max, aminmax_min, abin_add, abin_sub, abin_mul, abin_eql, abin_neq, abin_lss, abin_leq, abin_gtr, abin_geq, aunary_not, aextract], by simp [FT.get_set, FT.setL, faS_ptr, nilS_ptr, nilS_func, nilS_yield, pickS_bool, ldS_ptr, list_cells, list_ro, partS_none, lenSl_of, lenStr_of, cvInt_of, aminmax_max, aminmax_min, abin_add, abin_sub, abin_mul, abin_eql, abin_neq, abin_lss, abin_leq, abin_gtr, abin_geq, aunary_not, aextract], h0⟩
  · rintro m T S1 ⟨k, hk, t0, t1, t3, hj⟩
    obtain ⟨hb, hrb, hlt⟩ := hJ k S1 hj
    refine m_wf fun wf1 => m_seq (m_seq (m_reg ?_))
    rw [reg47_1]
    have hw : IntKind.i64.wrap ((k : Int) * 256) = ((256 * k : Nat) : Int) := by rw [wrap_i64 (by omega) (by omega)]; omega
    simp (decide := true) only [FT.get_set, FT.setL, faS_ptr, nilS_ptr, nilS_func, nilS_yield, pickS_bool, ldS_ptr, list_cells, list_ro, partS_none, lenSl_of, lenStr_of, cvInt_of, aminmax_max, aminmax_min, abin_add, abin_sub, abin_mul, abin_eql, abin_neq, abin_lss, abin_leq, abin_gtr, abin_geq, aunary_not, aextract, Option.some.injEq, Prod.mk.injEq, Value.bool.injEq, exists_eq_left', exists_and_left, and_assoc, decide_eq_true_eq, decide_eq_false_iff_not, if_true, if_false, Nat.zero_add, Nat.add_zero, Option.bind_some, true_and, and_true, forall_const, true_implies, Bool.not_eq_true, Bool.false_eq_true, false_implies, ite_self, Nat.mul_one, t1, t3, hw, list_of hb, List.getElem?_cons_zero, hrb.len]
    refine m_cond (t := decide (((256 * k : Nat) : Int) < bs.length)) (by simp [evalT, FT.get_set, FT.setL, faS_ptr, nilS_ptr, nilS_func, nilS_yield, pickS_bool, ldS_ptr, list_cells, list_ro, partS_none, lenSl_of, lenStr_of, cvInt_of, aminmax_max, aminmax_min, abin_add, abin_sub, abin_mul, abin_eql, abin_neq, abin_lss, abin_leq, abin_gtr, abin_geq, aunary_not, aextract]) (fun h => m_skip ?_) (fun h => m_exit ?_)
    · have hlt2 : 256 * k < bs.length := by have := of_decide_eq_true h; omega
      have hkk : k < pieceK bs := by unfold pieceK; omega
      simp only
      unfold blk47_1
      refine m_seq (m_block (m_seq (m_reg ?_)))
      rw [reg47_3]
      have hms : msS S1 1 1 [.int .u8 0] (.int .i64 256) (.int .i64 256) = some (.slice (some ⟨S1.n, 0, none⟩) 256 256, S1.fresh (bL (List.replicate 256 0)) 1) := by
        have hz : zeros [.int .u8 0] 256 = bL (List.replicate 256 0) := by rw [zeros_one]; simp [bL]
        rw [← hz]; exact msS_of (n := 256) S1 1 1 [.int .u8 0] .i64 .i64 (by omega) (by omega)
      simp (decide := true) only [FT.get_set, FT.setL, faS_ptr, nilS_ptr, nilS_func, nilS_yield, pickS_bool, ldS_ptr, list_cells, list_ro, partS_none, lenSl_of, lenStr_of, cvInt_of, aminmax_max, aminmax_min, abin_add, abin_sub, abin_mul, abin_eql, abin_neq, abin_lss, abin_leq, abin_gtr, abin_geq, aunary_not, aextract, Option.some.injEq, Prod.mk.injEq, Value.bool.injEq, exists_eq_left', exists_and_left, and_assoc, decide_eq_true_eq, decide_eq_false_iff_not, if_true, if_false, Nat.zero_add, Nat.add_zero, Option.bind_some, true_and, and_true, forall_const, true_implies, Bool.not_eq_true, Bool.false_eq_true, false_implies, ite_self, Nat.mul_one, hms]
      refine m_seq (m_reg ?_)
      rw [reg47_4]
      have f2 := old_fresh S1 (bL (List.replicate 256 0)) 1
      have hb2 : (S1.fresh (bL (List.replicate 256 0)) 1).m box = some (.cells [v] 0) := by rw [f2.2 _ hlt]; exact hb
      have hrb2 := hrb.keep wf1 f2.2
      obtain ⟨v2, q1, q2⟩ := hrb2.sub (i := 256 * k) (j := bs.length) (low := some (.int .i64 ((256 * k : Nat) : Int))) (high := none) (by omega) (Nat.le_refl _) (.inr rfl) (.inl ⟨rfl, rfl⟩)
      have e2 : (bs.drop (256 * k)).take (bs.length - 256 * k) = bs.drop (256 * k) := List.take_of_length_le (by rw [List.length_drop]; exact Nat.le_refl _)
      rw [e2] at q2
      have hdl : (bs.drop (256 * k)).length = bs.length - 256 * k := List.length_drop
      obtain ⟨n, hn⟩ : ∃ n, n = Nat.min (bs.drop (256 * k)).length 256 := ⟨_, rfl⟩
      have hn0 : n ≠ 0 := by rw [hn]; simp only [Nat.min_def]; split <;> omega
      have hnl : n ≤ (bs.drop (256 * k)).length := by rw [hn]; exact Nat.min_le_left _ _
      have hn256 : n ≤ 256 := by rw [hn]; exact Nat.min_le_right _ _
      have htk : (bs.drop (256 * k)).take n = (bs.drop (256 * k)).take 256 := by
        rw [hn]; show List.take (min _ _) _ = _
        rw [Nat.min_comm, ← List.take_take, List.take_length]
      have hcp := cpS_of (dcap := 256) (off := 0) (fresh_at S1 (bL (List.replicate 256 0)) 1) q2.lenA hn.symm hn0 (q2.first hnl) (bL_one _) (by rw [bL_len, bL_len, List.length_replicate, List.length_take]; omega)
      have hsp : spliceL (bL (List.replicate 256 0)) (bL ((bs.drop (256 * k)).take n)) 0 = bL (pieceN bs k) := by
        unfold spliceL pieceN
        rw [htk, bL_append, bL_len, bL_rep, bL_rep, List.drop_replicate, Nat.zero_add, List.take_zero, List.nil_append]
      rw [hsp, set_fresh] at hcp
      simp (decide := true) only [FT.get_set, FT.setL, faS_ptr, nilS_ptr, nilS_func, nilS_yield, pickS_bool, ldS_ptr, list_cells, list_ro, partS_none, lenSl_of, lenStr_of, cvInt_of, aminmax_max, aminmax_min, abin_add, abin_sub, abin_mul, abin_eql, abin_neq, abin_lss, abin_leq, abin_gtr, abin_geq, aunary_not, aextract, Option.some.injEq, Prod.mk.injEq, Value.bool.injEq, exists_eq_left', exists_and_left, and_assoc, decide_eq_true_eq, decide_eq_false_iff_not, if_true, if_false, Nat.zero_add, Nat.add_zero, Option.bind_some, true_and, and_true, forall_const, true_implies, Bool.not_eq_true, Bool.false_eq_true, false_implies, ite_self, Nat.mul_one, t1, t3, hw, list_of hb2, List.getElem?_cons_zero, q1, hcp]
      refine m_seq (m_reg ?_)
      rw [reg47_5]
      simp (decide := true) only [FT.get_set, FT.setL, faS_ptr, nilS_ptr, nilS_func, nilS_yield, pickS_bool, ldS_ptr, list_cells, list_ro, partS_none, lenSl_of, lenStr_of, cvInt_of, aminmax_max, aminmax_min, abin_add, abin_sub, abin_mul, abin_eql, abin_neq, abin_lss, abin_leq, abin_gtr, abin_geq, aunary_not, aextract, Option.some.injEq, Prod.mk.injEq, Value.bool.injEq, exists_eq_left', exists_and_left, and_assoc, decide_eq_true_eq, decide_eq_false_iff_not, if_true, if_false, Nat.zero_add, Nat.add_zero, Option.bind_some, true_and, and_true, forall_const, true_implies, Bool.not_eq_true, Bool.false_eq_true, false_implies, ite_self, Nat.mul_one, t0, t3]
      refine CallV.mono (f := .func (.yield l) #[] #[]) (args := [.int .i64 k, .slice (some ⟨S1.n, 0, none⟩) 256 256]) (step k S1 hkk wf1 hj) ?_
      rintro y S3 (⟨rfl, hj2⟩ | ⟨rfl, hr⟩)
      · simp (decide := true) only [FT.get_set, FT.setL, faS_ptr, nilS_ptr, nilS_func, nilS_yield, pickS_bool, ldS_ptr, list_cells, list_ro, partS_none, lenSl_of, lenStr_of, cvInt_of, aminmax_max, aminmax_min, abin_add, abin_sub, abin_mul, abin_eql, abin_neq, abin_lss, abin_leq, abin_gtr, abin_geq, aunary_not, aextract, Option.some.injEq, Prod.mk.injEq, Value.bool.injEq, exists_eq_left', exists_and_left, and_assoc, decide_eq_true_eq, decide_eq_false_iff_not, if_true, if_false, Nat.zero_add, Nat.add_zero, Option.bind_some, true_and, and_true, forall_const, true_implies, Bool.not_eq_true, Bool.false_eq_true, false_implies, ite_self, Nat.mul_one, ]
        refine m_cond (t := false) (by simp [evalT, FT.get_set, FT.setL, faS_ptr, nilS_ptr, nilS_func, nilS_yield, pickS_bool, ldS_ptr, list_cells, list_ro, partS_none, lenSl_of, lenStr_of, cvInt_of, aminmax_max, aminmax_min, abin_add, abin_sub, abin_mul, abin_eql, abin_neq, abin_lss, abin_leq, abin_gtr, abin_geq, aunary_not, aextract]) (fun h => by cases h) (fun _ => m_skip ?_)
        simp only
        refine m_reg ?_
        rw [reg47_2]
        have hw2 : IntKind.i64.wrap ((k : Int) + 1) = ((k + 1 : Nat) : Int) := by rw [wrap_i64 (by omega) (by omega)]; rfl
        simp (decide := true) only [FT.get_set, FT.setL, faS_ptr, nilS_ptr, nilS_func, nilS_yield, pickS_bool, ldS_ptr, list_cells, list_ro, partS_none, lenSl_of, lenStr_of, cvInt_of, aminmax_max, aminmax_min, abin_add, abin_sub, abin_mul, abin_eql, abin_neq, abin_lss, abin_leq, abin_gtr, abin_geq, aunary_not, aextract, Option.some.injEq, Prod.mk.injEq, Value.bool.injEq, exists_eq_left', exists_and_left, and_assoc, decide_eq_true_eq, decide_eq_false_iff_not, if_true, if_false, Nat.zero_add, Nat.add_zero, Option.bind_some, true_and, and_true, forall_const, true_implies, Bool.not_eq_true, Bool.false_eq_true, false_implies, ite_self, Nat.mul_one, t3, hw2]
        exact ⟨m - 1, by omega, k + 1, by omega, by simp [FT.get_set, FT.setL, faS_ptr, nilS_ptr, nilS_func, nilS_yield, pickS_bool, ldS_ptr, list_cells, list_ro, partS_none, lenSl_of, lenStr_of, cvInt_of, aminmax_max, aminmax_min, abin_add, abin_sub, abin_mul, abin_eql, abin_neq, abin_lss, abin_leq, abin_gtr, abin_geq, aunary_not, aextract, t0], by simp [FT.get_set, FT.setL, faS_ptr, nilS_ptr, nilS_func, nilS_yield, pickS_bool, ldS_ptr, list_cells, list_ro, partS_none, lenSl_of, lenStr_of, cvInt_of, aminmax_max, aminmax_min, abin_add, abin_sub, abin_mul, abin_eql, abin_neq, abin_lss, abin_leq, abin_gtr, abin_geq, aunary_not, aextract, t1], by simp [FT.get_set, FT.setL, faS_ptr, nilS_ptr, nilS_func, nilS_yield, pickS_bool, ldS_ptr, list_cells, list_ro, partS_none, lenSl_of, lenStr_of, cvInt_of, aminmax_max, aminmax_min, abin_add, abin_sub, abin_mul, abin_eql, abin_neq, abin_lss, abin_leq, abin_gtr, abin_geq, aunary_not, aextract], hj2⟩
      · simp (decide := true) only [FT.get_set, FT.setL, faS_ptr, nilS_ptr, nilS_func, nilS_yield, pickS_bool, ldS_ptr, list_cells, list_ro, partS_none, lenSl_of, lenStr_of, cvInt_of, aminmax_max, aminmax_min, abin_add, abin_sub, abin_mul, abin_eql, abin_neq, abin_lss, abin_leq, abin_gtr, abin_geq, aunary_not, aextract, Option.some.injEq, Prod.mk.injEq, Value.bool.injEq, exists_eq_left', exists_and_left, and_assoc, decide_eq_true_eq, decide_eq_false_iff_not, if_true, if_false, Nat.zero_add, Nat.add_zero, Option.bind_some, true_and, and_true, forall_const, true_implies, Bool.not_eq_true, Bool.false_eq_true, false_implies, ite_self, Nat.mul_one, ]
        refine m_cond (t := true) (by simp [evalT, FT.get_set, FT.setL, faS_ptr, nilS_ptr, nilS_func, nilS_yield, pickS_bool, ldS_ptr, list_cells, list_ro, partS_none, lenSl_of, lenStr_of, cvInt_of, aminmax_max, aminmax_min, abin_add, abin_sub, abin_mul, abin_eql, abin_neq, abin_lss, abin_leq, abin_gtr, abin_geq, aunary_not, aextract]) (fun _ => ?_) (fun h => by cases h)
        refine m_ret ?_
        simp [resM]
        exact .inr hr
    · have : k = pieceK bs := by have := of_decide_eq_false h; unfold pieceK at hk ⊢; omega
      subst this
      simp [resM]
      exact .inl hj
end Go.Proofs.Ytmfmbadfgnhonaa
namespace Go.Proofs.Ytmfmbadfgnhonaa
open Go Go.Ag
set_option linter.unusedVariables false
set_option maxRecDepth 100000

theorem ag24 : aggT Try.prog 24 = some none := by kernel_rfl
theorem mload24 (S : MS) (x : Value) : mload Try.prog S 24 x = ldS none S x := by unfold mload; rw [ag24]

/-- a block that isn't the disk's, nor an array, may change -/
theorem Goes.touch {S S1 S2 : MS} {d l : Nat} {D D1 : DK} {c0 : Nat → List UInt8} {W V : List (Nat × List UInt8)} (h : Goes S d D c0 W S1 D1 V) (wf : S1.WF) (hn : S1.n ≤ S2.n) (hm : ∀ x, x < S1.n → x ≠ l → S2.m x = S1.m x) (hl : S.n ≤ l) (hf : FrD S1 d D1 l) (ha : ¬ Arr S1 l) : Goes S d D c0 W S2 D1 V := by
  refine ⟨h.is.keep fun x hx => ?_, h.hw.keep fun x hx => ?_, h.wn, Nat.le_trans h.le hn, fun y hy => ?_⟩
  · rcases hx with rfl | rfl | rfl | ⟨hw, rfl⟩
    · exact hm _ (wf _ _ h.is.hd) (Ne.symm hf.2.1)
    · exact hm _ (wf _ _ h.is.hm) (Ne.symm hf.2.2.2.2)
    · exact hm _ (wf _ _ h.is.hn) (Ne.symm hf.2.2.1)
    · exact hm _ (wf _ _ (h.is.hw hw)) (Ne.symm (hf.2.2.2.1 hw))
  · obtain ⟨l', h1, h2⟩ := hx
    exact hm x (wf _ _ h1) (fun e => ha (e ▸ ⟨l', h1, h2⟩))
  · obtain ⟨h1, h2⟩ := h.fr y hy
    refine ⟨(hm y h2.1 (fun e => by have := hy.1; omega)).trans h1, Nat.lt_of_lt_of_le h2.1 hn, h2.2⟩

noncomputable def loop32 (S : MS) (T : FT) (st : LoopState) (pe : Option Code) : K := .loop ⟨st, pe, ⟨T, 23⟩, [12, 13], (.seq (.region 2 (ro 32 2) false) (.region 3 (ro 32 3) false)), blk32_1⟩

/-- what holds while pieces are written -/
structure I32 (S : MS) (d : Nat) (D : DK) (c0 : Nat → List UInt8) (W : List (Nat × List UInt8)) (v : Value) (bs : List UInt8) (p : Nat) (T : FT) (st : LoopState) (pe : Option Code) (r : Int) (k : Nat) (S' : MS) (D' : DK) : Prop where
  go : Goes S d D c0 W S' D' ((piecesN bs p).take k)
  b0 : S'.m S.n = some (.cells [.pointer (some ⟨d, 0, none⟩)] 0)
  b1 : S'.m (S.n + 1) = some (.cells [.int .i64 p] 0)
  b2 : S'.m (S.n + 2) = some (.cells [.int .i64 r] 0)
  b3 : S'.m (S.n + 3) = some (.cells [v] 0)
  b4 : S'.m (S.n + 4) = some (loop32 S T st pe)
  n5 : S.n + 5 ≤ S'.n
  fr : ∀ y, S.n ≤ y → y < S.n + 5 → FrD S' d D' y
  rb : RB S' v bs
  on : ∀ y, On v y → FrD S' d D' y ∧ y < S.n
theorem I32.nmb {S : MS} {d : Nat} {D : DK} {c0 : Nat → List UInt8} {W : List (Nat × List UInt8)} {v : Value} {bs : List UInt8} {p : Nat} {T : FT} {st : LoopState} {pe : Option Code} {r : Int} {k : Nat} {S' : MS} {D' : DK} (h : I32 S d D c0 W v bs p T st pe r k S' D') {y : Nat} (hy : y = S.n + 4 ∨ y = S.n + 2) : y ≠ D'.mb ∧ ¬ Arr S' y := by
  rcases hy with rfl | rfl
  · refine ⟨fun e => ?_, fun ⟨l, h1, h2⟩ => ?_⟩
    · have h1 := h.go.is.hm; rw [← e, h.b4] at h1; cases h1
    · rw [h.b4] at h1; cases h1
  · refine ⟨fun e => ?_, fun ⟨l, h1, h2⟩ => ?_⟩
    · have h1 := h.go.is.hm; rw [← e, h.b2] at h1; injection h1 with h1; injection h1 with _ h1; cases h1
    · rw [h.b2] at h1; cases h1; simp at h2
/-- the loop's block is set -/
theorem I32.set {S : MS} {d : Nat} {D : DK} {c0 : Nat → List UInt8} {W : List (Nat × List UInt8)} {v : Value} {bs : List UInt8} {p : Nat} {T : FT} {st : LoopState} {pe : Option Code} {r : Int} {k : Nat} {S' : MS} {D' : DK} (h : I32 S d D c0 W v bs p T st pe r k S' D') (wf : S'.WF) (st' : LoopState) (pe' : Option Code) : I32 S d D c0 W v bs p T st' pe' r k (S'.set (S.n + 4) (loop32 S T st' pe')) D' := by
  obtain ⟨h1, h2⟩ := h.nmb (.inl rfl)
  have ne : ∀ x, x ≠ S.n + 4 → (S'.set (S.n + 4) (loop32 S T st' pe')).m x = S'.m x := fun x hx => by rw [set_m, if_neg hx]
  exact ⟨h.go.touch wf (Nat.le_refl _) (fun x _ hx => ne x hx) (by omega) (h.fr _ (by omega) (by omega)) h2, by rw [ne _ (by omega)]; exact h.b0, by rw [ne _ (by omega)]; exact h.b1, by rw [ne _ (by omega)]; exact h.b2, by rw [ne _ (by omega)]; exact h.b3, by rw [set_m, if_pos rfl], h.n5, h.fr, h.rb.keepOn fun y hy => ne y (by have := (h.on y hy).2; omega), h.on⟩
theorem I32.fresh {S : MS} {d : Nat} {D : DK} {c0 : Nat → List UInt8} {W : List (Nat × List UInt8)} {v : Value} {bs : List UInt8} {p : Nat} {T : FT} {st : LoopState} {pe : Option Code} {r : Int} {k : Nat} {S' : MS} {D' : DK} (h : I32 S d D c0 W v bs p T st pe r k S' D') (wf : S'.WF) (l : List Value) (es : Nat) : I32 S d D c0 W v bs p T st pe r k (S'.fresh l es) D' := by
  have hn := h.n5
  have f := old_fresh S' l es
  have g := h.go.trans (Goes.old h.go.is h.go.hw wf f)
  rw [List.append_nil] at g
  exact ⟨g, by rw [f.2 _ (by omega)]; exact h.b0, by rw [f.2 _ (by omega)]; exact h.b1, by rw [f.2 _ (by omega)]; exact h.b2, by rw [f.2 _ (by omega)]; exact h.b3, by rw [f.2 _ (by omega)]; exact h.b4, by rw [fresh_n]; omega, fun y h1 h2 => (h.fr y h1 h2).old f, h.rb.keep wf f.2, fun y hy => ⟨(h.on y hy).1.old f, (h.on y hy).2⟩⟩
theorem I32.goes {S : MS} {d : Nat} {D : DK} {c0 : Nat → List UInt8} {W : List (Nat × List UInt8)} {v : Value} {bs : List UInt8} {p : Nat} {T : FT} {st : LoopState} {pe : Option Code} {r : Int} {k : Nat} {S' S'' : MS} {D' D'' : DK} (h : I32 S d D c0 W v bs p T st pe r k S' D') (hk : k < pieceK bs) (g : Goes S' d D' c0 (W ++ (piecesN bs p).take k) S'' D'' [(p + k, pieceN bs k)]) : I32 S d D c0 W v bs p T st pe r (k + 1) S'' D'' := by
  have hg := h.go.trans g
  rw [← piecesN_take _ _ _ hk] at hg
  have e : ∀ y, S.n ≤ y → y < S.n + 5 → S''.m y = S'.m y ∧ FrD S'' d D'' y := fun y h1 h2 => g.fr y (h.fr y h1 h2)
  exact ⟨hg, by rw [(e _ (by omega) (by omega)).1]; exact h.b0, by rw [(e _ (by omega) (by omega)).1]; exact h.b1, by rw [(e _ (by omega) (by omega)).1]; exact h.b2, by rw [(e _ (by omega) (by omega)).1]; exact h.b3, by rw [(e _ (by omega) (by omega)).1]; exact h.b4, Nat.le_trans h.n5 g.le, fun y h1 h2 => (e y h1 h2).2, h.rb.keepOn fun y hy => (g.fr y (h.on y hy).1).1, fun y hy => ⟨(g.fr y (h.on y hy).1).2, (h.on y hy).2⟩⟩

theorem writes32 {S : MS} {d : Nat} {D : DK} {c0 : Nat → List UInt8} {W : List (Nat × List UInt8)} {v : Value} {bs : List UInt8} {p : Nat} (h : IsD S d D) (hw : HW S D c0 W) (hb : RB S v bs) (hon : ∀ y, On v y → FrD S d D y) (hsm : bs.length ≤ 400000) (hp : p + pieceK bs ≤ D.made.length) (hws : D.ws.length + pieceK bs < 1000000) (hhalt : D.halt ≤ 9223372036854775807) {Q : Value → MS → Prop}
    (hQ : ∀ (r : Int) k D' S', k ≤ pieceK bs → Goes S d D c0 W S' D' ((piecesN bs p).take k) → ((k = pieceK bs ∧ r = 0) ∨ (k < pieceK bs ∧ D'.cut = true ∧ r = 12)) → Q (.int .i64 r) S') : CallM Try.prog O 32 [.pointer (some ⟨d, 0, none⟩), .int .i64 p, v] S Q := by
  refine callM_wf fun wf => ?_
  have hsmall := h.small
  refine callM_body (fnIs is32 body32 res32) (O_none (by decide)) (by simp) ?_
  refine m_seq (m_reg ?_)
  rw [reg32_0]
  refine m_seq (m_seq (m_reg ?_))
  rw [reg32_1]
  simp (decide := true) only [FT.get_set, FT.setL, faS_ptr, nilS_ptr, nilS_func, nilS_yield, pickS_bool, ldS_ptr, list_cells, list_ro, partS_none, lenSl_of, lenStr_of, cvInt_of, aminmax_max, aminmax_min, abin_add, abin_sub, abin_mul, abin_eql, abin_neq, abin_lss, abin_leq, abin_gtr, abin_geq, aunary_not, aextract, Option.some.injEq, Prod.mk.injEq, Value.bool.injEq, exists_eq_left', exists_and_left, and_assoc, decide_eq_true_eq, decide_eq_false_iff_not, if_true, if_false, Nat.zero_add, Nat.add_zero, Option.bind_some, true_and, and_true, forall_const, true_implies, Bool.not_eq_true, Bool.false_eq_true, false_implies, ite_self, Nat.mul_one, cells_int, cells_ptr, ptrTo, fresh_n]
  have f1 := old_fresh S [.pointer (some ⟨d, 0, none⟩)] 0
  have wf1 := wf_fresh' wf [.pointer (some ⟨d, 0, none⟩)] 0
  have f2 := old_fresh (S.fresh [.pointer (some ⟨d, 0, none⟩)] 0) [.int .i64 p] 0
  have wf2 := wf_fresh' wf1 [.int .i64 p] 0
  have f3 := old_fresh ((S.fresh [.pointer (some ⟨d, 0, none⟩)] 0).fresh [.int .i64 p] 0) [.int .i64 0] 0
  have wf3 := wf_fresh' wf2 [.int .i64 0] 0
  obtain ⟨S3, hS3⟩ : ∃ S3, S3 = ((S.fresh [.pointer (some ⟨d, 0, none⟩)] 0).fresh [.int .i64 p] 0).fresh [.int .i64 0] 0 := ⟨_, rfl⟩
  have hn3 : S3.n = S.n + 3 := by rw [hS3]; rfl
  have h3 : Old S S3 := by rw [hS3]; exact (f1.trans f2).trans f3
  have c0' : S3.m S.n = some (.cells [.pointer (some ⟨d, 0, none⟩)] 0) := by rw [hS3, fresh_old _ _ _ (by simp only [fresh_n]; omega), fresh_old _ _ _ (by simp only [fresh_n]; omega), fresh_at]
  have c1' : S3.m (S.n + 1) = some (.cells [.int .i64 p] 0) := by rw [hS3, fresh_old _ _ _ (by simp only [fresh_n]; omega)]; exact fresh_at (S.fresh _ 0) _ _
  have c2' : S3.m (S.n + 2) = some (.cells [.int .i64 0] 0) := by rw [hS3]; exact fresh_at ((S.fresh _ 0).fresh _ 0) _ _
  rw [← hS3] at wf3
  rw [← hS3]
  refine pieces44 (hb.keep wf h3.2) ?_
  have f4 := old_fresh S3 [v] 0
  have wf4 := wf_fresh' wf3 [v] 0
  unfold blk32_0
  refine m_block (m_rangeFunc rfl ?_)
  have e11 : ∀ T : FT, evalT (((T.set v 10).set (.func (.func 47) #[] #[.pointer (some ⟨S3.n, 0, none⟩)]) 11)) (.tmp 11) = .func (.func 47) #[] #[.pointer (some ⟨S3.n, 0, none⟩)] := fun T => by simp [evalT, FT.get_set]
  rw [e11]
  rw [hn3]
  obtain ⟨T, hT⟩ : ∃ T, T = (((((FT.empty.setL 0 [.pointer (some ⟨d, 0, none⟩), .int .i64 p, v]).set (.pointer (some ⟨S.n, 0, none⟩)) 3).set (.pointer (some ⟨S.n + 1, 0, none⟩)) 4).set (.pointer (some ⟨S.n + 1 + 1, 0, none⟩)) 6).set v 10).set (.func (.func 47) #[] #[.pointer (some ⟨S.n + 3, 0, none⟩)]) 11 := ⟨_, rfl⟩
  have t3 : T.get 3 = .pointer (some ⟨S.n, 0, none⟩) := by rw [hT]; simp [FT.get_set, FT.setL, faS_ptr, nilS_ptr, nilS_func, nilS_yield, pickS_bool, ldS_ptr, list_cells, list_ro, partS_none, lenSl_of, lenStr_of, cvInt_of, aminmax_max, aminmax_min, abin_add, abin_sub, abin_mul, abin_eql, abin_neq, abin_lss, abin_leq, abin_gtr, abin_geq, aunary_not, aextract]
  have t4 : T.get 4 = .pointer (some ⟨S.n + 1, 0, none⟩) := by rw [hT]; simp [FT.get_set, FT.setL, faS_ptr, nilS_ptr, nilS_func, nilS_yield, pickS_bool, ldS_ptr, list_cells, list_ro, partS_none, lenSl_of, lenStr_of, cvInt_of, aminmax_max, aminmax_min, abin_add, abin_sub, abin_mul, abin_eql, abin_neq, abin_lss, abin_leq, abin_gtr, abin_geq, aunary_not, aextract]
  have t6 : T.get 6 = .pointer (some ⟨S.n + 2, 0, none⟩) := by rw [hT]; simp [FT.get_set, FT.setL, faS_ptr, nilS_ptr, nilS_func, nilS_yield, pickS_bool, ldS_ptr, list_cells, list_ro, partS_none, lenSl_of, lenStr_of, cvInt_of, aminmax_max, aminmax_min, abin_add, abin_sub, abin_mul, abin_eql, abin_neq, abin_lss, abin_leq, abin_gtr, abin_geq, aunary_not, aextract]
  show CallM Try.prog O 47 [.func (.yield ((S3.fresh [v] 0).n)) #[] #[], .pointer (some ⟨S.n + 3, 0, none⟩)] _ _
  rw [fresh_n, hn3]
  have hpu : ∀ x, x < S.n + 4 → ((S3.fresh [v] 0).push (loop32 S T .ready none)).m x = (S3.fresh [v] 0).m x := fun x hx => by rw [push_m, if_neg (by rw [fresh_n]; omega)]
  have old5 : Old S ((S3.fresh [v] 0).push (loop32 S T .ready none)) := ⟨by rw [push_n, fresh_n]; omega, fun y hy => by rw [hpu y (by omega), f4.2 y (by omega), h3.2 y hy]⟩
  have st0 : I32 S d D c0 W v bs p T .ready none 0 0 ((S3.fresh [v] 0).push (loop32 S T .ready none)) D := by
    refine ⟨by rw [List.take_zero]; exact Goes.old h hw wf old5, by rw [hpu _ (by omega), f4.2 _ (by omega)]; exact c0', by rw [hpu _ (by omega), f4.2 _ (by omega)]; exact c1', by rw [hpu _ (by omega), f4.2 _ (by omega)]; exact c2', by rw [hpu _ (by omega), ← hn3, fresh_at], by rw [push_m, fresh_n, hn3, if_pos rfl], by rw [push_n, fresh_n, hn3]; omega, fun y h1 h2 => FrD.new h wf h1 (by rw [push_n, fresh_n, hn3]; omega), hb.keep wf old5.2, fun y hy => ⟨(hon y hy).old old5, (hon y hy).1⟩⟩
  refine callM_wf_post (CallM.mono (pieces47 (bs := bs) (v := v) hsm (fun k S' => k ≤ pieceK bs ∧ ∃ D', I32 S d D c0 W v bs p T .ready none 0 k S' D') (fun S' => ∃ k D', k < pieceK bs ∧ D'.cut = true ∧ I32 S d D c0 W v bs p T .done (some .ret) 12 k S' D') ⟨Nat.zero_le _, D, ?_⟩ ?_ ?_) ?_)
  · subst hT
    exact st0
  · rintro k S' ⟨hk, D', hi⟩
    have := hi.n5
    exact ⟨hi.b3, hi.rb, by omega⟩
  · rintro k S' hkk wf' ⟨hk, D', hi⟩
    have hi1 := hi.fresh wf' (bL (pieceN bs k)) 1
    have wf1' := wf_fresh' wf' (bL (pieceN bs k)) 1
    have hsl : SlF bF 1 (S'.fresh (bL (pieceN bs k)) 1) 0 (.slice (some ⟨S'.n, 0, none⟩) 256 256) (pieceN bs k) := by
      have := SlF.own (f := bF) (sz := 1) (S := S'.fresh (bL (pieceN bs k)) 1) (B := 0) (b := S'.n) (cap := 256) (l := pieceN bs k) (junk := []) (by rw [List.append_nil, bF_flat]; exact fresh_at S' _ 1) (Nat.zero_le _) (.inr ⟨by decide, by rw [List.append_nil, pieceN_len]⟩) (by rw [List.append_nil, pieceN_len]; omega)
      rwa [pieceN_len] at this
    refine roundM_body (T := (T.set (.int .i64 k) 12).set (.slice (some ⟨S'.n, 0, none⟩) 256 256) 13) hi1.b4 rfl ?_
    refine m_seq (m_reg ?_)
    rw [reg32_2]
    refine m_reg ?_
    rw [reg32_3]
    simp (decide := true) only [FT.get_set, FT.setL, faS_ptr, nilS_ptr, nilS_func, nilS_yield, pickS_bool, ldS_ptr, list_cells, list_ro, partS_none, lenSl_of, lenStr_of, cvInt_of, aminmax_max, aminmax_min, abin_add, abin_sub, abin_mul, abin_eql, abin_neq, abin_lss, abin_leq, abin_gtr, abin_geq, aunary_not, aextract, Option.some.injEq, Prod.mk.injEq, Value.bool.injEq, exists_eq_left', exists_and_left, and_assoc, decide_eq_true_eq, decide_eq_false_iff_not, if_true, if_false, Nat.zero_add, Nat.add_zero, Option.bind_some, true_and, and_true, forall_const, true_implies, Bool.not_eq_true, Bool.false_eq_true, false_implies, ite_self, Nat.mul_one, ]
    refine ⟨_, hi1.b4, rfl, ?_⟩
    have hi2 := hi1.set wf1' .busy none
    have hl1 := hi1.n5
    have wf2' : ((S'.fresh (bL (pieceN bs k)) 1).set (S.n + 4) (loop32 S T .busy none)).WF := fun x q hq => by
      rw [set_m] at hq
      by_cases e : x = S.n + 4
      · subst e; rw [set_n]; omega
      · rw [if_neg e] at hq; exact wf1' x q hq
    show MWp Try.prog O 23 blk32_1 _ ((S'.fresh (bL (pieceN bs k)) 1).set (S.n + 4) (loop32 S T .busy none)) _
    have hsl2 : SlF bF 1 ((S'.fresh (bL (pieceN bs k)) 1).set (S.n + 4) (loop32 S T .busy none)) 0 (.slice (some ⟨S'.n, 0, none⟩) 256 256) (pieceN bs k) := hsl.keep1 fun y q hy _ => by
      rw [set_m, if_neg]
      intro e
      refine hy fun l c h2 => ?_
      have hn5 := hi.n5
      simp at h2
    obtain ⟨S2, hS2⟩ : ∃ S2, S2 = (S'.fresh (bL (pieceN bs k)) 1).set (S.n + 4) (loop32 S T .busy none) := ⟨_, rfl⟩
    rw [← hS2] at hi2 wf2' hsl2 ⊢
    unfold blk32_1
    refine m_block (m_seq (m_reg ?_))
    rw [reg32_4]
    have hw1 : IntKind.i64.wrap ((p : Int) + (k : Int)) = ((p + k : Nat) : Int) := by rw [wrap_i64 (by omega) (by omega)]; rfl
    simp (decide := true) only [FT.get_set, FT.setL, faS_ptr, nilS_ptr, nilS_func, nilS_yield, pickS_bool, ldS_ptr, list_cells, list_ro, partS_none, lenSl_of, lenStr_of, cvInt_of, aminmax_max, aminmax_min, abin_add, abin_sub, abin_mul, abin_eql, abin_neq, abin_lss, abin_leq, abin_gtr, abin_geq, aunary_not, aextract, Option.some.injEq, Prod.mk.injEq, Value.bool.injEq, exists_eq_left', exists_and_left, and_assoc, decide_eq_true_eq, decide_eq_false_iff_not, if_true, if_false, Nat.zero_add, Nat.add_zero, Option.bind_some, true_and, and_true, forall_const, true_implies, Bool.not_eq_true, Bool.false_eq_true, false_implies, ite_self, Nat.mul_one, t3, t4, list_of hi2.b0, list_of hi2.b1, List.getElem?_cons_zero, hw1]
    have hmd := hi2.go.wn.made
    have hwl := hi2.go.wn.ws
    rw [List.length_take, piecesN_len] at hwl
    refine writeW hi2.go.is hi2.go.hw (i := p + k) (by rw [hmd]; omega) hsl2 (pieceN_len _ _) (by omega) (Int.le_trans hi2.go.wn.halt hhalt) (fun hcut => ?_) (fun hcut D'' S4 g => ?_)
    · refine m_seq (m_reg ?_)
      rw [reg32_5]
      have hne : ((12 : Int) != 0) = true := by decide
      simp (decide := true) only [FT.get_set, FT.setL, faS_ptr, nilS_ptr, nilS_func, nilS_yield, pickS_bool, ldS_ptr, list_cells, list_ro, partS_none, lenSl_of, lenStr_of, cvInt_of, aminmax_max, aminmax_min, abin_add, abin_sub, abin_mul, abin_eql, abin_neq, abin_lss, abin_leq, abin_gtr, abin_geq, aunary_not, aextract, Option.some.injEq, Prod.mk.injEq, Value.bool.injEq, exists_eq_left', exists_and_left, and_assoc, decide_eq_true_eq, decide_eq_false_iff_not, if_true, if_false, Nat.zero_add, Nat.add_zero, Option.bind_some, true_and, and_true, forall_const, true_implies, Bool.not_eq_true, Bool.false_eq_true, false_implies, ite_self, Nat.mul_one, hne]
      refine m_cond (t := true) (by simp [evalT, FT.get_set, FT.setL, faS_ptr, nilS_ptr, nilS_func, nilS_yield, pickS_bool, ldS_ptr, list_cells, list_ro, partS_none, lenSl_of, lenStr_of, cvInt_of, aminmax_max, aminmax_min, abin_add, abin_sub, abin_mul, abin_eql, abin_neq, abin_lss, abin_leq, abin_gtr, abin_geq, aunary_not, aextract]) (fun _ => ?_) (fun h => by cases h)
      refine m_seq (m_reg ?_)
      rw [reg32_6]
      obtain ⟨S5, u1, u2, u3, u4⟩ := st_one (off := 0) (v := .int .i64 12) hi2.b2 (by decide) rfl rfl
      simp (decide := true) only [FT.get_set, FT.setL, faS_ptr, nilS_ptr, nilS_func, nilS_yield, pickS_bool, ldS_ptr, list_cells, list_ro, partS_none, lenSl_of, lenStr_of, cvInt_of, aminmax_max, aminmax_min, abin_add, abin_sub, abin_mul, abin_eql, abin_neq, abin_lss, abin_leq, abin_gtr, abin_geq, aunary_not, aextract, Option.some.injEq, Prod.mk.injEq, Value.bool.injEq, exists_eq_left', exists_and_left, and_assoc, decide_eq_true_eq, decide_eq_false_iff_not, if_true, if_false, Nat.zero_add, Nat.add_zero, Option.bind_some, true_and, and_true, forall_const, true_implies, Bool.not_eq_true, Bool.false_eq_true, false_implies, ite_self, Nat.mul_one, t6]
      refine ⟨S5, u1, m_ret ?_⟩
      simp only
      have hne2 := hi2.nmb (.inr rfl)
      have hi5 : I32 S d D c0 W v bs p T .busy none 12 k S5 D' := ⟨hi2.go.touch wf2' (by omega) (fun x _ hx => u4 x hx) (by omega) (hi2.fr _ (by omega) (by omega)) hne2.2, by rw [u4 _ (by omega)]; exact hi2.b0, by rw [u4 _ (by omega)]; exact hi2.b1, u2, by rw [u4 _ (by omega)]; exact hi2.b3, by rw [u4 _ (by omega)]; exact hi2.b4, by rw [u3]; exact hi2.n5, fun y h1 h2 => ⟨by rw [u3]; exact (hi2.fr y h1 h2).1, (hi2.fr y h1 h2).2⟩, hi2.rb.keepOn fun y hy => u4 y (by have := (hi2.on y hy).2; omega), fun y hy => ⟨⟨by rw [u3]; exact (hi2.on y hy).1.1, (hi2.on y hy).1.2⟩, (hi2.on y hy).2⟩⟩
      have wf5 : S5.WF := fun x q hq => by
        by_cases e : x = S.n + 2
        · subst e; rw [u3]; have := hi2.n5; omega
        · rw [u4 x e] at hq; rw [u3]; exact wf2' x q hq
      refine ⟨_, hi5.b4, .inr ⟨rfl, k, hkk, D', hcut, hi5.set wf5 .done (some .ret)⟩⟩
    · have hi4 := hi2.goes hkk g
      refine m_wf fun wf4 => m_seq (m_reg ?_)
      rw [reg32_5]
      simp (decide := true) only [FT.get_set, FT.setL, faS_ptr, nilS_ptr, nilS_func, nilS_yield, pickS_bool, ldS_ptr, list_cells, list_ro, partS_none, lenSl_of, lenStr_of, cvInt_of, aminmax_max, aminmax_min, abin_add, abin_sub, abin_mul, abin_eql, abin_neq, abin_lss, abin_leq, abin_gtr, abin_geq, aunary_not, aextract, Option.some.injEq, Prod.mk.injEq, Value.bool.injEq, exists_eq_left', exists_and_left, and_assoc, decide_eq_true_eq, decide_eq_false_iff_not, if_true, if_false, Nat.zero_add, Nat.add_zero, Option.bind_some, true_and, and_true, forall_const, true_implies, Bool.not_eq_true, Bool.false_eq_true, false_implies, ite_self, Nat.mul_one, bne_self_eq_false]
      refine m_cond (t := false) (by simp [evalT, FT.get_set, FT.setL, faS_ptr, nilS_ptr, nilS_func, nilS_yield, pickS_bool, ldS_ptr, list_cells, list_ro, partS_none, lenSl_of, lenStr_of, cvInt_of, aminmax_max, aminmax_min, abin_add, abin_sub, abin_mul, abin_eql, abin_neq, abin_lss, abin_leq, abin_gtr, abin_geq, aunary_not, aextract]) (fun h => by cases h) (fun _ => m_skip ?_)
      simp only
      exact ⟨_, hi4.b4, .inl ⟨rfl, by omega, D'', hi4.set wf4 .ready none⟩⟩
  · rintro _ S' (⟨hk, D', hi⟩ | ⟨k, D', hk, hcut, hi⟩) wf'
    · refine ⟨_, hi.b4, by simp, ?_⟩
      have hi' := hi.set wf' .exhausted none
      simp only
      refine m_wf fun wf2' => m_seq (m_reg ?_)
      rw [reg32_7]
      obtain ⟨S5, u1, u2, u3, u4⟩ := st_one (off := 0) (v := .int .i64 0) hi'.b2 (by decide) rfl rfl
      simp (decide := true) only [FT.get_set, FT.setL, faS_ptr, nilS_ptr, nilS_func, nilS_yield, pickS_bool, ldS_ptr, list_cells, list_ro, partS_none, lenSl_of, lenStr_of, cvInt_of, aminmax_max, aminmax_min, abin_add, abin_sub, abin_mul, abin_eql, abin_neq, abin_lss, abin_leq, abin_gtr, abin_geq, aunary_not, aextract, Option.some.injEq, Prod.mk.injEq, Value.bool.injEq, exists_eq_left', exists_and_left, and_assoc, decide_eq_true_eq, decide_eq_false_iff_not, if_true, if_false, Nat.zero_add, Nat.add_zero, Option.bind_some, true_and, and_true, forall_const, true_implies, Bool.not_eq_true, Bool.false_eq_true, false_implies, ite_self, Nat.mul_one, t6]
      refine ⟨S5, u1, m_ret ?_⟩
      simp [resM, mload24, FT.get_set, FT.setL, faS_ptr, nilS_ptr, nilS_func, nilS_yield, pickS_bool, ldS_ptr, list_cells, list_ro, partS_none, lenSl_of, lenStr_of, cvInt_of, aminmax_max, aminmax_min, abin_add, abin_sub, abin_mul, abin_eql, abin_neq, abin_lss, abin_leq, abin_gtr, abin_geq, aunary_not, aextract, list_of u2, oneOrTuple]
      have hne2 := hi'.nmb (.inr rfl)
      exact hQ 0 (pieceK bs) D' S5 (Nat.le_refl _) (hi'.go.touch wf2' (by omega) (fun x _ hx => u4 x hx) (by omega) (hi'.fr _ (by omega) (by omega)) hne2.2) (.inl ⟨rfl, rfl⟩)
    · refine ⟨_, hi.b4, by simp, ?_⟩
      have hi' := hi.set wf' .exhausted (some .ret)
      simp only
      have hb2 := hi'.b2
      have hl2 : (S'.set (S.n + 3 + 1) (loop32 S T .exhausted (some .ret))).list (S.n + 1 + 1) = some [.int .i64 12] := list_of hb2
      unfold loop32 at hl2
      simp [resM, mload24, FT.get_set, FT.setL, faS_ptr, nilS_ptr, nilS_func, nilS_yield, pickS_bool, ldS_ptr, list_cells, list_ro, partS_none, lenSl_of, lenStr_of, cvInt_of, aminmax_max, aminmax_min, abin_add, abin_sub, abin_mul, abin_eql, abin_neq, abin_lss, abin_leq, abin_gtr, abin_geq, aunary_not, aextract, hl2, oneOrTuple]
      exact hQ 12 k D' _ (by omega) hi'.go (.inr ⟨hk, hcut, rfl⟩)
end Go.Proofs.Ytmfmbadfgnhonaa

