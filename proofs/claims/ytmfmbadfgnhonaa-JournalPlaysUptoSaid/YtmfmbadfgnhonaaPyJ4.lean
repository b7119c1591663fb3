/-
  The walk through the journal's code: what its functions do to memory, part PyJ4. Nothing is asked.
-/
import Derived.Test.YtmfmbadfgnhonaaPyJ3
set_option linter.all false
namespace Go.Proofs.Ytmfmbadfgnhonaa
open Go Go.Ag
set_option linter.unusedVariables false
set_option maxRecDepth 100000

/-- Base: a copy -/
theorem base25 {S : MS} {j d B half end' : Nat} {base tail : List UInt8} {rs : List (List UInt8)} {dead : Bool} (h : IsJ S j d B half end' base rs tail dead) (hl : base.length ≤ 400000) {Q : Value → MS → Prop} (hq : ∀ v S', Old S S' → SlF bF 1 S' S.n v base → Q v S') : CallM Try.prog O 25 [.pointer (some ⟨j, 0, none⟩)] S Q := by
  obtain ⟨bv, rv, tv, rl, hj, hb, hr, hrs, ht, hav⟩ := h.ex
  refine callM_body (fnIs is25 body25 res25) (O_none (by decide)) (by simp) ?_
  refine m_seq (m_reg ?_)
  rw [reg25_0]
  refine m_seq (m_reg ?_)
  rw [reg25_1]
  have g3 : (jouL d half end' bv rv tv dead)[3]? = some bv := rfl
  simp (decide := true) only [FT.get_set, FT.setL, faS_ptr, nilS_ptr, nilS_func, nilS_yield, pickS_bool, ldS_ptr, list_cells, list_ro, partS_none, lenSl_of, lenStr_of, cvInt_of, aminmax_max, aminmax_min, abin_add, abin_sub, abin_mul, abin_eql, abin_neq, abin_lss, abin_leq, abin_gtr, abin_geq, aunary_not, aextract, Option.some.injEq, Prod.mk.injEq, Value.bool.injEq, exists_eq_left', exists_and_left, and_assoc, decide_eq_true_eq, decide_eq_false_iff_not, if_true, if_false, Nat.zero_add, Nat.add_zero, Option.bind_some, true_and, and_true, forall_const, true_implies, Bool.not_eq_true, Bool.false_eq_true, false_implies, ite_self, Nat.mul_one, list_of hj, g3]
  refine clone40 hb hl fun v S' f hv => ?_
  refine m_ret ?_
  simp [resM, FT.get_set, FT.setL, faS_ptr, nilS_ptr, nilS_func, nilS_yield, pickS_bool, ldS_ptr, list_cells, list_ro, partS_none, lenSl_of, lenStr_of, cvInt_of, aminmax_max, aminmax_min, abin_add, abin_sub, abin_mul, abin_eql, abin_neq, abin_lss, abin_leq, abin_gtr, abin_geq, aunary_not, aextract, oneOrTuple]
  exact hq v S' f hv
theorem IsJ.old {S S' : MS} {j d B half end' : Nat} {base tail : List UInt8} {rs : List (List UInt8)} {dead : Bool} (h : IsJ S j d B half end' base rs tail dead) (wf : S.WF) (f : Old S S') : IsJ S' j d B half end' base rs tail dead := by
  obtain ⟨bv, rv, tv, rl, hj, hb, hr, hrs, ht, hav⟩ := h.ex
  exact ⟨bv, rv, tv, rl, by rw [f.2 j (wf _ _ hj)]; exact hj, hb.keep wf f.2, hr.keep fun y k hk => f.2 y (wf y k hk), hrs.keep wf f.2, ht.keep wf f.2, hav⟩
end Go.Proofs.Ytmfmbadfgnhonaa
namespace Go.Proofs.Ytmfmbadfgnhonaa
open Go Go.Ag
set_option linter.unusedVariables false
set_option maxRecDepth 100000

/-- k blocks from one on, as bytes -/
def catB (c : Nat → List UInt8) (p : Nat) : Nat → List UInt8
  | 0 => []
  | k + 1 => catB c p k ++ c (p + k)
theorem catB_len {c : Nat → List UInt8} {p : Nat} : ∀ k, (∀ i, i < k → (c (p + i)).length = 256) → (catB c p k).length = 256 * k
  | 0, _ => rfl
  | k + 1, h => by
    rw [catB, List.length_append, catB_len k (fun i hi => h i (by omega)), h k (by omega)]; omega

theorem IsD.old' {S S' : MS} {d : Nat} {D : DK} (h : IsD S d D) (wf : S.WF) (f : Old S S') : IsD S' d D := h.keep fun x hx => by
  rcases hx with rfl | rfl | rfl | ⟨hw, rfl⟩
  · exact f.2 _ (wf _ _ h.hd)
  · exact f.2 _ (wf _ _ h.hm)
  · exact f.2 _ (wf _ _ h.hn)
  · exact f.2 _ (wf _ _ (h.hw hw))

def BI38 (S : MS) (d : Nat) (c : Nat → List UInt8) (p K : Nat) (end' : Nat) (m : Nat) (T : FT) (S' : MS) : Prop := ∃ (k : Nat) (v : Value), k + m = K ∧ Old S S' ∧ SlF bF 1 S' S.n v (catB c p k) ∧ T.get 0 = .pointer (some ⟨d, 0, none⟩) ∧ T.get 2 = .int .i64 end' ∧ T.get 8 = v ∧ T.get 9 = .int .i64 ((p + k : Nat) : Int)

theorem bytes38 {S : MS} {d : Nat} {D : DK} {c : Nat → List UInt8} (h : IsD S d D) (hc : Holds S D c) (hcut : D.cut = false) {half end' : Nat} (hh : half ≤ 1) (hn1 : 1 ≤ D.made.length) (hn2 : D.made.length ≤ 2000) (he : end' ≤ (D.made.length - 1) / 2 * 256) {Q : Value → MS → Prop}
    (hq : ∀ v S', Old S S' → RB S' v ((catB c (placeN D.made.length half) ((end' + 255) / 256)).take end') → (∀ y, On v y → S.n ≤ y) → Q (.tuple #[v, .int .i64 0]) S') : CallM Try.prog O 38 [.pointer (some ⟨d, 0, none⟩), .int .i64 half, .int .i64 end'] S Q := by
  refine callM_wf fun wf => ?_
  refine callM_body (fnIs is38 body38 res38) (O_none (by decide)) (by simp) ?_
  refine m_seq (m_reg ?_)
  rw [reg38_0]
  refine m_seq (m_reg ?_)
  rw [reg38_1]
  refine m_seq (m_seq (m_reg ?_))
  rw [reg38_2]
  simp (decide := true) only [FT.get_set, FT.setL, faS_ptr, nilS_ptr, nilS_func, nilS_yield, pickS_bool, ldS_ptr, list_cells, list_ro, partS_none, lenSl_of, lenStr_of, cvInt_of, aminmax_max, aminmax_min, abin_add, abin_sub, abin_mul, abin_eql, abin_neq, abin_lss, abin_leq, abin_gtr, abin_geq, aunary_not, aextract, Option.some.injEq, Prod.mk.injEq, Value.bool.injEq, exists_eq_left', exists_and_left, and_assoc, decide_eq_true_eq, decide_eq_false_iff_not, if_true, if_false, Nat.zero_add, Nat.add_zero, Option.bind_some, true_and, and_true, forall_const, true_implies, Bool.not_eq_true, Bool.false_eq_true, false_implies, ite_self, Nat.mul_one, ]
  refine place33 h hh ⟨hn1, by omega⟩ ?_
  obtain ⟨p, hp⟩ : ∃ p, p = placeN D.made.length half := ⟨_, rfl⟩
  obtain ⟨K, hK⟩ : ∃ K, K = (end' + 255) / 256 := ⟨_, rfl⟩
  rw [← hp, ← hK] at hq
  rw [← hp]
  have hmul : half * ((D.made.length - 1) / 2) ≤ 1 * ((D.made.length - 1) / 2) := Nat.mul_le_mul_right _ hh
  have hpK : p + K ≤ D.made.length := by rw [hp, hK]; unfold placeN; omega
  have hlen : ∀ i, i < K → (c (p + i)).length = 256 := fun i hi => (hc (p + i) (by omega)).1
  unfold blk38_0
  refine m_block (m_loop (fun m T S' => BI38 S d c p K end' m T S') K ⟨0, .slice none 0 0, by omega, Old.refl _, .non, by simp [FT.get_set, FT.setL, faS_ptr, nilS_ptr, nilS_func, nilS_yield, pickS_bool, ldS_ptr, list_cells, list_ro, partS_none, lenSl_of, lenStr_of, cvInt_of, aminmax_max, aminmax_min, abin_add, abin_sub, abin_mul, abin_eql, abin_neq, abin_lss, abin_leq, abin_gtr, abin_geq, aunary_not, aextract], by simp [FT.get_set, FT.setL, faS_ptr, nilS_ptr, nilS_func, nilS_yield, pickS_bool, ldS_ptr, list_cells, list_ro, partS_none, lenSl_of, lenStr_of, cvInt_of, aminmax_max, aminmax_min, abin_add, abin_sub, abin_mul, abin_eql, abin_neq, abin_lss, abin_leq, abin_gtr, abin_geq, aunary_not, aextract], by simp [FT.get_set, FT.setL, faS_ptr, nilS_ptr, nilS_func, nilS_yield, pickS_bool, ldS_ptr, list_cells, list_ro, partS_none, lenSl_of, lenStr_of, cvInt_of, aminmax_max, aminmax_min, abin_add, abin_sub, abin_mul, abin_eql, abin_neq, abin_lss, abin_leq, abin_gtr, abin_geq, aunary_not, aextract], by simp [FT.get_set, FT.setL, faS_ptr, nilS_ptr, nilS_func, nilS_yield, pickS_bool, ldS_ptr, list_cells, list_ro, partS_none, lenSl_of, lenStr_of, cvInt_of, aminmax_max, aminmax_min, abin_add, abin_sub, abin_mul, abin_eql, abin_neq, abin_lss, abin_leq, abin_gtr, abin_geq, aunary_not, aextract]⟩ ?_)
  rintro m T S1 ⟨k, v, hk, f1, hv, t0, t2, t8, t9⟩
  have hkl : (catB c p k).length = 256 * k := catB_len k fun i hi => hlen i (by omega)
  refine m_wf fun wf1 => m_seq (m_seq (m_reg ?_))
  rw [reg38_3]
  have hvl := hv.lenSl
  rw [hkl] at hvl
  simp (decide := true) only [FT.get_set, FT.setL, faS_ptr, nilS_ptr, nilS_func, nilS_yield, pickS_bool, ldS_ptr, list_cells, list_ro, partS_none, lenSl_of, lenStr_of, cvInt_of, aminmax_max, aminmax_min, abin_add, abin_sub, abin_mul, abin_eql, abin_neq, abin_lss, abin_leq, abin_gtr, abin_geq, aunary_not, aextract, Option.some.injEq, Prod.mk.injEq, Value.bool.injEq, exists_eq_left', exists_and_left, and_assoc, decide_eq_true_eq, decide_eq_false_iff_not, if_true, if_false, Nat.zero_add, Nat.add_zero, Option.bind_some, true_and, and_true, forall_const, true_implies, Bool.not_eq_true, Bool.false_eq_true, false_implies, ite_self, Nat.mul_one, t2, t8, hvl]
  refine m_cond (t := decide (((256 * k : Nat) : Int) < end')) (by simp [evalT, FT.get_set, FT.setL, faS_ptr, nilS_ptr, nilS_func, nilS_yield, pickS_bool, ldS_ptr, list_cells, list_ro, partS_none, lenSl_of, lenStr_of, cvInt_of, aminmax_max, aminmax_min, abin_add, abin_sub, abin_mul, abin_eql, abin_neq, abin_lss, abin_leq, abin_gtr, abin_geq, aunary_not, aextract]) (fun hlt => m_skip ?_) (fun hlt => m_exit ?_)
  · have hlt : 256 * k < end' := by have := of_decide_eq_true hlt; omega
    simp only
    have hkK : k < K := by omega
    have h1 := h.old' wf f1
    have hc1 := hc.old wf f1
    unfold blk38_1
    refine m_seq (m_block (m_seq (m_reg ?_)))
    rw [reg38_5]
    simp (decide := true) only [FT.get_set, FT.setL, faS_ptr, nilS_ptr, nilS_func, nilS_yield, pickS_bool, ldS_ptr, list_cells, list_ro, partS_none, lenSl_of, lenStr_of, cvInt_of, aminmax_max, aminmax_min, abin_add, abin_sub, abin_mul, abin_eql, abin_neq, abin_lss, abin_leq, abin_gtr, abin_geq, aunary_not, aextract, Option.some.injEq, Prod.mk.injEq, Value.bool.injEq, exists_eq_left', exists_and_left, and_assoc, decide_eq_true_eq, decide_eq_false_iff_not, if_true, if_false, Nat.zero_add, Nat.add_zero, Option.bind_some, true_and, and_true, forall_const, true_implies, Bool.not_eq_true, Bool.false_eq_true, false_implies, ite_self, Nat.mul_one, t0, t9]
    refine readP h1 hc1 (by omega) (fun hx => by rw [hcut] at hx; cases hx) fun _ => ?_
    simp (decide := true) only [FT.get_set, FT.setL, faS_ptr, nilS_ptr, nilS_func, nilS_yield, pickS_bool, ldS_ptr, list_cells, list_ro, partS_none, lenSl_of, lenStr_of, cvInt_of, aminmax_max, aminmax_min, abin_add, abin_sub, abin_mul, abin_eql, abin_neq, abin_lss, abin_leq, abin_gtr, abin_geq, aunary_not, aextract, Option.some.injEq, Prod.mk.injEq, Value.bool.injEq, exists_eq_left', exists_and_left, and_assoc, decide_eq_true_eq, decide_eq_false_iff_not, if_true, if_false, Nat.zero_add, Nat.add_zero, Option.bind_some, true_and, and_true, forall_const, true_implies, Bool.not_eq_true, Bool.false_eq_true, false_implies, ite_self, Nat.mul_one, List.getElem?_cons_zero, List.getElem?_cons_succ]
    refine m_seq (m_seq (m_reg ?_))
    rw [reg38_6]
    simp (decide := true) only [FT.get_set, FT.setL, faS_ptr, nilS_ptr, nilS_func, nilS_yield, pickS_bool, ldS_ptr, list_cells, list_ro, partS_none, lenSl_of, lenStr_of, cvInt_of, aminmax_max, aminmax_min, abin_add, abin_sub, abin_mul, abin_eql, abin_neq, abin_lss, abin_leq, abin_gtr, abin_geq, aunary_not, aextract, Option.some.injEq, Prod.mk.injEq, Value.bool.injEq, exists_eq_left', exists_and_left, and_assoc, decide_eq_true_eq, decide_eq_false_iff_not, if_true, if_false, Nat.zero_add, Nat.add_zero, Option.bind_some, true_and, and_true, forall_const, true_implies, Bool.not_eq_true, Bool.false_eq_true, false_implies, ite_self, Nat.mul_one, bne_self_eq_false]
    refine m_cond (t := false) (by simp [evalT, FT.get_set, FT.setL, faS_ptr, nilS_ptr, nilS_func, nilS_yield, pickS_bool, ldS_ptr, list_cells, list_ro, partS_none, lenSl_of, lenStr_of, cvInt_of, aminmax_max, aminmax_min, abin_add, abin_sub, abin_mul, abin_eql, abin_neq, abin_lss, abin_leq, abin_gtr, abin_geq, aunary_not, aextract]) (fun h => by cases h) (fun _ => m_skip ?_)
    simp only
    refine m_reg ?_
    rw [reg38_8]
    have f2 := old_fresh S1 (bL (c (p + k))) 1
    have wf2 := wf_fresh' wf1 (bL (c (p + k))) 1
    have hv2 : SlF bF 1 (S1.fresh (bL (c (p + k))) 1) S.n v (catB c p k) := hv.keep fun y q hy => f2.2 y (wf1 y q hy)
    have hck : (c (p + k)).length = 256 := hlen k hkK
    have rb : RB (S1.fresh (bL (c (p + k))) 1) (.slice (some ⟨S1.n, 0, none⟩) 256 256) (c (p + k)) := by
      refine .inr (.inr ⟨S1.n, 0, 256, bL (c (p + k)), by rw [hck], list_of (fresh_at S1 _ 1), by rw [bL_len]; omega, by rw [List.drop_zero, ← bL_len, List.take_length], by omega, .inl (by decide)⟩)
    obtain ⟨v', S3, a1, a2, a3, a4, a5⟩ := hv2.app2 (bytes := 1) (z := [.int .u8 0]) bF_len bF_one (by decide) (x := .slice (some ⟨S1.n, 0, none⟩) 256 256) (new := c (p + k)) wf2 (by have := f1.1; simp only [fresh_n]; omega) rb.lenA rb.flat (by rw [hkl, hck]; omega) (by rw [hkl, hck]; omega)
    simp (decide := true) only [FT.get_set, FT.setL, faS_ptr, nilS_ptr, nilS_func, nilS_yield, pickS_bool, ldS_ptr, list_cells, list_ro, partS_none, lenSl_of, lenStr_of, cvInt_of, aminmax_max, aminmax_min, abin_add, abin_sub, abin_mul, abin_eql, abin_neq, abin_lss, abin_leq, abin_gtr, abin_geq, aunary_not, aextract, Option.some.injEq, Prod.mk.injEq, Value.bool.injEq, exists_eq_left', exists_and_left, and_assoc, decide_eq_true_eq, decide_eq_false_iff_not, if_true, if_false, Nat.zero_add, Nat.add_zero, Option.bind_some, true_and, and_true, forall_const, true_implies, Bool.not_eq_true, Bool.false_eq_true, false_implies, ite_self, Nat.mul_one, t8, a1]
    refine m_reg ?_
    rw [reg38_4]
    have hwi : IntKind.i64.wrap (((p + k : Nat) : Int) + 1) = ((p + (k + 1) : Nat) : Int) := by rw [wrap_i64 (by omega) (by omega)]; omega
    simp (decide := true) only [FT.get_set, FT.setL, faS_ptr, nilS_ptr, nilS_func, nilS_yield, pickS_bool, ldS_ptr, list_cells, list_ro, partS_none, lenSl_of, lenStr_of, cvInt_of, aminmax_max, aminmax_min, abin_add, abin_sub, abin_mul, abin_eql, abin_neq, abin_lss, abin_leq, abin_gtr, abin_geq, aunary_not, aextract, Option.some.injEq, Prod.mk.injEq, Value.bool.injEq, exists_eq_left', exists_and_left, and_assoc, decide_eq_true_eq, decide_eq_false_iff_not, if_true, if_false, Nat.zero_add, Nat.add_zero, Option.bind_some, true_and, and_true, forall_const, true_implies, Bool.not_eq_true, Bool.false_eq_true, false_implies, ite_self, Nat.mul_one, t9, hwi]
    refine ⟨m - 1, by omega, k + 1, v', by omega, ⟨by have := f1.1; simp only [fresh_n] at a3; omega, fun y hy => ?_⟩, a2, by simp [FT.get_set, FT.setL, faS_ptr, nilS_ptr, nilS_func, nilS_yield, pickS_bool, ldS_ptr, list_cells, list_ro, partS_none, lenSl_of, lenStr_of, cvInt_of, aminmax_max, aminmax_min, abin_add, abin_sub, abin_mul, abin_eql, abin_neq, abin_lss, abin_leq, abin_gtr, abin_geq, aunary_not, aextract, t0], by simp [FT.get_set, FT.setL, faS_ptr, nilS_ptr, nilS_func, nilS_yield, pickS_bool, ldS_ptr, list_cells, list_ro, partS_none, lenSl_of, lenStr_of, cvInt_of, aminmax_max, aminmax_min, abin_add, abin_sub, abin_mul, abin_eql, abin_neq, abin_lss, abin_leq, abin_gtr, abin_geq, aunary_not, aextract, t2], by simp [FT.get_set, FT.setL, faS_ptr, nilS_ptr, nilS_func, nilS_yield, pickS_bool, ldS_ptr, list_cells, list_ro, partS_none, lenSl_of, lenStr_of, cvInt_of, aminmax_max, aminmax_min, abin_add, abin_sub, abin_mul, abin_eql, abin_neq, abin_lss, abin_leq, abin_gtr, abin_geq, aunary_not, aextract], by simp [FT.get_set, FT.setL, faS_ptr, nilS_ptr, nilS_func, nilS_yield, pickS_bool, ldS_ptr, list_cells, list_ro, partS_none, lenSl_of, lenStr_of, cvInt_of, aminmax_max, aminmax_min, abin_add, abin_sub, abin_mul, abin_eql, abin_neq, abin_lss, abin_leq, abin_gtr, abin_geq, aunary_not, aextract]⟩
    have := f1.1
    rw [a4 y (by simp only [fresh_n]; omega) (hv2.av hy), f2.2 y (by omega), f1.2 y hy]
  · have hge : ¬ 256 * k < end' := by have := of_decide_eq_false hlt; omega
    have : k = K := by omega
    subst this
    simp only [if_true]
    refine m_seq (m_reg ?_)
    rw [reg38_9]
    obtain ⟨v', q1, q2⟩ := (RB.own hv).sub3 (i := 0) (j := end') (low := none) (Nat.zero_le _) (by rw [hkl]; omega) (.inl ⟨rfl, rfl⟩)
    rw [List.drop_zero, Nat.sub_zero] at q2
    simp (decide := true) only [FT.get_set, FT.setL, faS_ptr, nilS_ptr, nilS_func, nilS_yield, pickS_bool, ldS_ptr, list_cells, list_ro, partS_none, lenSl_of, lenStr_of, cvInt_of, aminmax_max, aminmax_min, abin_add, abin_sub, abin_mul, abin_eql, abin_neq, abin_lss, abin_leq, abin_gtr, abin_geq, aunary_not, aextract, Option.some.injEq, Prod.mk.injEq, Value.bool.injEq, exists_eq_left', exists_and_left, and_assoc, decide_eq_true_eq, decide_eq_false_iff_not, if_true, if_false, Nat.zero_add, Nat.add_zero, Option.bind_some, true_and, and_true, forall_const, true_implies, Bool.not_eq_true, Bool.false_eq_true, false_implies, ite_self, Nat.mul_one, t2, t8, q1]
    refine m_ret ?_
    simp [resM, FT.get_set, FT.setL, faS_ptr, nilS_ptr, nilS_func, nilS_yield, pickS_bool, ldS_ptr, list_cells, list_ro, partS_none, lenSl_of, lenStr_of, cvInt_of, aminmax_max, aminmax_min, abin_add, abin_sub, abin_mul, abin_eql, abin_neq, abin_lss, abin_leq, abin_gtr, abin_geq, aunary_not, aextract, oneOrTuple]
    exact hq v' S1 f1 q2 fun y hy => SlF.on hv (slS_on q1 hy)
end Go.Proofs.Ytmfmbadfgnhonaa
namespace Go.Proofs.Ytmfmbadfgnhonaa
open Go Go.Ag
set_option linter.unusedVariables false
set_option maxRecDepth 100000

/-! ### plain facts on records that are laid down -/
theorem laid_head (r rest : List UInt8) : (laid r ++ rest).take 8 = num8 r.length := by
  unfold laid
  rw [List.append_assoc, List.take_left' (num8_len _)]
theorem laid_body (r rest : List UInt8) : ((laid r ++ rest).drop 8).take r.length = r := by
  unfold laid
  rw [List.append_assoc, List.drop_left' (num8_len _), List.take_left' rfl]
theorem laid_rest (r rest : List UInt8) : (laid r ++ rest).drop (8 + r.length) = rest := by
  unfold laid
  rw [List.append_assoc, ← List.drop_drop, List.drop_left' (num8_len _), List.drop_left' rfl]
/-- all that a journal has laid down -/
def allB (base : List UInt8) (rs : List (List UInt8)) : List UInt8 := laid base ++ rs.flatMap laid
theorem flat_laid_len (rs : List (List UInt8)) : (rs.flatMap laid).length = wsum rs := by
  induction rs with
  | nil => rfl
  | cons r rs ih => rw [List.flatMap_cons, List.length_append, ih, laid_len, wsum]
theorem allB_len (base : List UInt8) (rs : List (List UInt8)) : (allB base rs).length = liveN base rs := by
  unfold allB liveN; rw [List.length_append, laid_len, flat_laid_len]
theorem allB_snoc (base : List UInt8) (rs : List (List UInt8)) (r : List UInt8) : allB base (rs ++ [r]) = allB base rs ++ laid r := by
  unfold allB; simp
end Go.Proofs.Ytmfmbadfgnhonaa

